import Derived.Test.YtonnegkpjmhomaaGreatDoorProg
import Derived.Below
import Derived.Deep.Draws
import Derived.Deep.AppendLies
import Derived.Maps.AppendAt
import Derived.OwnWalk
import Derived.Laws.BytesArg
import Derived.Laws.MakeOwn
import Derived.Laws.OwnMore
import Derived.Deep.OwnRows
import Derived.Tactics
import Derived.Lib.ConvBytes
import Derived.Laws.Slices
import Derived.WalkKit
import Derived.KernelRfl
import Derived.RowKit3
import Derived.Deep.LoopGhost
import Derived.Deep.QuietTactic
import Derived.BigQuiet
import Derived.WideLaws
import Derived.Deep.DeepCutAuto
import Derived.Deep.CutBlock
import Derived.Deep.RegionHeld3
import Derived.Laws.Rows
import Derived.Lib.AppendStr
import Derived.ArgAppend
import Derived.Laws.IdiomCopy
import Derived.OrdersHeld
import Derived.Laws.BitsLemmas
import Derived.RowKit
import Derived.Laws.StructEq
import Derived.Test.YtonnegkpjmhomaaGreatDoorDSmall11
import Derived.Test.YtonnegkpjmhomaaGreatDoorDSmall13
import Derived.Test.YtonnegkpjmhomaaGreatDoorDSmall14
import Derived.Test.YtonnegkpjmhomaaGreatDoorDSmall15
import Derived.Test.YtonnegkpjmhomaaGreatDoorDSmall16
set_option linter.all false
section
namespace Go.Proofs.YtonnegkpjmhomaaGreatDoorPR
open Go.RowKit Go.Proofs.YtonnegkpjmhomaaGreatDoorW.PrintWords Go.Proofs.YtonnegkpjmhomaaGreatDoorW.PrintLast Go.Proofs.YtonnegkpjmhomaaGreatDoorW.PrintMore
attribute [local go_sem] max2_int min2_int max_two min_two max_three min_three max_four min_four
set_option linter.unusedVariables false
set_option linter.unusedSimpArgs false
def errW : Option Int → Value
  | none => .nilIface
  | some c => .iface 0 (.int .i64 c)
theorem errW_none : errW none = .nilIface := rfl
theorem errW_some (c : Int) : errW (some c) = .iface 0 (.int .i64 c) := rfl
end Go.Proofs.YtonnegkpjmhomaaGreatDoorPR
end
section
namespace Go.Proofs.YtonnegkpjmhomaaGreatDoorPR
open Go.RowKit Go.Proofs.YtonnegkpjmhomaaGreatDoorW.PrintWords Go.Proofs.YtonnegkpjmhomaaGreatDoorW.PrintLast Go.Proofs.YtonnegkpjmhomaaGreatDoorW.PrintMore
attribute [local go_sem] max2_int min2_int max_two min_two max_three min_three max_four min_four
set_option linter.unusedVariables false
set_option linter.unusedSimpArgs false
mutual
def spoondriftref05_Layout.l0 : Nat → ByteArray → Int → Option (Int)
  | 0, _, _ => none
  | k + 1, x0, x1 => if x1 < (x0.size : Int) then (if 0 ≤ x1 then (if (bt x0 x1) = 35 then (spoondriftref05_Layout.l1 k x0 x1) else (if (bt x0 x1) = 32 then (spoondriftref05_Layout.l0 k x0 (wrap64 (x1 + 1))) else (if (bt x0 x1) = 10 then (spoondriftref05_Layout.l0 k x0 (wrap64 (x1 + 1))) else (some x1)))) else (none)) else (some x1)
def spoondriftref05_Layout.l1 : Nat → ByteArray → Int → Option (Int)
  | 0, _, _ => none
  | k + 1, x0, x1 => if x1 < (x0.size : Int) then (if 0 ≤ x1 then (if (bt x0 x1) = 10 then (spoondriftref05_Layout.l0 k x0 x1) else (spoondriftref05_Layout.l1 k x0 (wrap64 (x1 + 1)))) else (none)) else (spoondriftref05_Layout.l0 k x0 x1)
end
def spoondriftref05_Layout.f (k : Nat) (a0 : ByteArray) (a1 : Int) : Option (Int) := spoondriftref05_Layout.l0 k a0 a1
theorem spoondriftref05_Layout.mono_l : ∀ k, (∀ y0 y1, LeO (spoondriftref05_Layout.l0 k y0 y1) (spoondriftref05_Layout.l0 (k + 1) y0 y1)) ∧ (∀ y0 y1, LeO (spoondriftref05_Layout.l1 k y0 y1) (spoondriftref05_Layout.l1 (k + 1) y0 y1))
  | 0 => ⟨fun _ _ r h => by simp [spoondriftref05_Layout.l0] at h, fun _ _ r h => by simp [spoondriftref05_Layout.l1] at h⟩
  | k + 1 => by
    obtain ⟨ih0, ih1⟩ := spoondriftref05_Layout.mono_l k
    refine ⟨?_, ?_⟩
    · intro y0 y1
      unfold spoondriftref05_Layout.l0
      repeat' first
      | (with_reducible exact ih0 _ _)
      | (with_reducible exact ih1 _ _)
      | (with_reducible exact LeO.refl _)
      | (with_reducible exact LeO.none _)
      | (with_reducible refine LeO.ite ?_ ?_)
      | (with_reducible refine LeO.bind ?_ (fun _ => ?_))
      | exact ih0 _ _
      | exact ih1 _ _
      | exact LeO.none _
      | refine LeO.ite ?_ ?_
      | refine LeO.bind ?_ (fun _ => ?_)
    · intro y0 y1
      unfold spoondriftref05_Layout.l1
      repeat' first
      | (with_reducible exact ih0 _ _)
      | (with_reducible exact ih1 _ _)
      | (with_reducible exact LeO.refl _)
      | (with_reducible exact LeO.none _)
      | (with_reducible refine LeO.ite ?_ ?_)
      | (with_reducible refine LeO.bind ?_ (fun _ => ?_))
      | exact ih0 _ _
      | exact ih1 _ _
      | exact LeO.none _
      | refine LeO.ite ?_ ?_
      | refine LeO.bind ?_ (fun _ => ?_)
theorem spoondriftref05_Layout.mono : ∀ a0 a1 k, LeO (spoondriftref05_Layout.f k a0 a1) (spoondriftref05_Layout.f (k + 1) a0 a1) := by
  intro a0 a1 k
  obtain ⟨ih0, ih1⟩ := spoondriftref05_Layout.mono_l k
  unfold spoondriftref05_Layout.f
  repeat' first
      | (with_reducible exact ih0 _ _)
      | (with_reducible exact ih1 _ _)
      | (with_reducible exact LeO.refl _)
      | (with_reducible exact LeO.none _)
      | (with_reducible refine LeO.ite ?_ ?_)
      | (with_reducible refine LeO.bind ?_ (fun _ => ?_))
      | exact ih0 _ _
      | exact ih1 _ _
      | exact LeO.none _
      | refine LeO.ite ?_ ?_
      | refine LeO.bind ?_ (fun _ => ?_)
set_option maxHeartbeats 8000000 in
set_option maxRecDepth 100000 in
theorem spoondriftref05_Layout.calls (k : Nat) (a0 : ByteArray) (a1 : Int) (r : Int) (w : World) (h : spoondriftref05_Layout.f k a0 a1 = some r) :
    Calls Tryz.prog 149 #[.string a0, .int .i64 a1] w fun e w' => e = .returned (.int .i64 r) ∧ Drawn0 w w' := by
  have H : (spoondriftref05_Layout.l0 k a0 a1) = some r := h
  clear h
  have H' := Aside0.mk H
  clear H
  go_enter Tryz.func149, Tryz.ntmps149
  go_wp2
  (try simp only [Act.put, List.setIfInBounds_toArray, List.set_cons_zero, List.set_cons_succ])
  go_loopg [1] k (fun kq v1 w' => ∃ (x1_1 : Int), v1 = .int .i64 x1_1 ∧ Aside0 (spoondriftref05_Layout.l0 kq a0 x1_1 = some r) ∧ Aside0 (kq ≤ k) ∧ Drawn0 w w')
  case atStart => exact ⟨(a1), (by first | rfl | (simp; done) | (simp [*]; done)), H', ⟨Nat.le_refl _⟩, by repeat (first | exact Drawn0.refl _ | apply Drawn0.step)⟩
  case round =>
    clear H'
    try clear c1
    try clear p2
    obtain ⟨x1_1, rfl, HA, HK1, ⟨m1, rfl⟩⟩ := hrel
    cases gk with
    | zero => exact absurd HA.out (by simp [spoondriftref05_Layout.l0])
    | succ k1 =>
      have H := HA.out
      clear HA
      simp only [spoondriftref05_Layout.l0] at H
      by_cases c3 : x1_1 < (a0.size : Int)
      · rw [if_pos c3] at H
        have c3b0 : decide (x1_1 < (a0.size : Int)) = true := decide_eq_true c3
        clear c3
        by_cases c4 : 0 ≤ x1_1
        · rw [if_pos c4] at H
          have c4b0 : decide (0 ≤ x1_1) = true := decide_eq_true c4
          clear c4
          by_cases c6 : (bt a0 x1_1) = 35
          · rw [if_pos c6] at H
            have c6b0 : ((bt a0 x1_1) == 35) = true := beq_iff_eq.mpr c6
            have c6b1 : ((bt a0 x1_1) != 35) = false := bne_eq_false_iff_eq.mpr c6
            clear c6
            have H' := Aside0.mk H
            clear H
            have p5 : 0 ≤ (x1_1 : Int) := of_decide_eq_true (by first | (with_reducible assumption) | assumption)
            have q5 : x1_1 < (a0.size : Int) := of_decide_eq_true (by first | (with_reducible assumption) | assumption)
            have hx5 := bt_at a0 x1_1
            replace p5 := eq_true p5
            replace q5 := eq_true q5
            go_wp2
            (try simp only [Act.put, List.setIfInBounds_toArray, List.set_cons_zero, List.set_cons_succ])
            go_loopg [1] k1 (fun kq v1 w' => ∃ (x1_2 : Int), v1 = .int .i64 x1_2 ∧ Aside0 (spoondriftref05_Layout.l1 kq a0 x1_2 = some r) ∧ Aside0 (kq ≤ k1) ∧ Drawn0 w w')
            case atStart => exact ⟨(x1_1), (by first | rfl | (simp; done) | (simp [*]; done)), H', ⟨Nat.le_refl _⟩, by repeat (first | exact Drawn0.refl _ | apply Drawn0.step)⟩
            case round =>
              clear H'
              try clear c1
              try clear p2
              try clear c3
              try clear c3b0
              try clear c4
              try clear c4b0
              try clear p5
              try clear q5
              try clear hx5
              try clear c6
              try clear c6b0
              try clear c6b1
              try clear p2
              try clear p5
              try clear q5
              obtain ⟨x1_2, rfl, HA, HK2, ⟨m2, rfl⟩⟩ := hrel
              cases gk with
              | zero => exact absurd HA.out (by simp [spoondriftref05_Layout.l1])
              | succ k2 =>
                have H := HA.out
                clear HA
                simp only [spoondriftref05_Layout.l1] at H
                by_cases c7 : x1_2 < (a0.size : Int)
                · rw [if_pos c7] at H
                  have c7b0 : decide (x1_2 < (a0.size : Int)) = true := decide_eq_true c7
                  clear c7
                  by_cases c8 : 0 ≤ x1_2
                  · rw [if_pos c8] at H
                    have c8b0 : decide (0 ≤ x1_2) = true := decide_eq_true c8
                    clear c8
                    by_cases c10 : (bt a0 x1_2) = 10
                    · rw [if_pos c10] at H
                      have c10b0 : ((bt a0 x1_2) == 10) = true := beq_iff_eq.mpr c10
                      have c10b1 : ((bt a0 x1_2) != 10) = false := bne_eq_false_iff_eq.mpr c10
                      clear c10
                      have H' := Aside0.mk H
                      clear H
                      have p9 : 0 ≤ (x1_2 : Int) := of_decide_eq_true (by first | (with_reducible assumption) | assumption)
                      have q9 : x1_2 < (a0.size : Int) := of_decide_eq_true (by first | (with_reducible assumption) | assumption)
                      have hx9 := bt_at a0 x1_2
                      replace p9 := eq_true p9
                      replace q9 := eq_true q9
                      go_wp2
                      go_roundg k2
                      case measure => have := HK1.out; have := HK2.out; omega
                      case rel => exact ⟨(x1_2), (by first | rfl | (simp; done) | (simp [*]; done)), H', ⟨by have := HK1.out; have := HK2.out; omega⟩, by repeat (first | exact Drawn0.refl _ | apply Drawn0.step)⟩
                    · rw [if_neg c10] at H
                      have c10b0 : ((bt a0 x1_2) == 10) = false := beq_eq_false_iff_ne.mpr c10
                      have c10b1 : ((bt a0 x1_2) != 10) = true := bne_iff_ne.mpr c10
                      have H' := Aside0.mk H
                      clear H
                      have p9 : 0 ≤ (x1_2 : Int) := of_decide_eq_true (by first | (with_reducible assumption) | assumption)
                      have q9 : x1_2 < (a0.size : Int) := of_decide_eq_true (by first | (with_reducible assumption) | assumption)
                      have hx9 := bt_at a0 x1_2
                      replace p9 := eq_true p9
                      replace q9 := eq_true q9
                      go_wp2
                      go_roundg k2
                      case measure => have := HK1.out; have := HK2.out; omega
                      case rel => exact ⟨(wrap64 (x1_2 + 1)), (by first | rfl | (simp; done) | (simp [*]; done)), H', ⟨by have := HK1.out; have := HK2.out; omega⟩, by repeat (first | exact Drawn0.refl _ | apply Drawn0.step)⟩
                  · rw [if_neg c8] at H
                    exact absurd H (by simp)
                · rw [if_neg c7] at H
                  have c7b0 : decide (x1_2 < (a0.size : Int)) = false := decide_eq_false c7
                  clear c7
                  have H' := Aside0.mk H
                  clear H
                  go_wp2
                  go_roundg k2
                  case measure => have := HK1.out; have := HK2.out; omega
                  case rel => exact ⟨(x1_2), (by first | rfl | (simp; done) | (simp [*]; done)), H', ⟨by have := HK1.out; have := HK2.out; omega⟩, by repeat (first | exact Drawn0.refl _ | apply Drawn0.step)⟩
          · rw [if_neg c6] at H
            have c6b0 : ((bt a0 x1_1) == 35) = false := beq_eq_false_iff_ne.mpr c6
            have c6b1 : ((bt a0 x1_1) != 35) = true := bne_iff_ne.mpr c6
            by_cases c12 : (bt a0 x1_1) = 32
            · rw [if_pos c12] at H
              have c12b0 : ((bt a0 x1_1) == 32) = true := beq_iff_eq.mpr c12
              have c12b1 : ((bt a0 x1_1) != 32) = false := bne_eq_false_iff_eq.mpr c12
              clear c12
              have H' := Aside0.mk H
              clear H
              have p5 : 0 ≤ (x1_1 : Int) := of_decide_eq_true (by first | (with_reducible assumption) | assumption)
              have q5 : x1_1 < (a0.size : Int) := of_decide_eq_true (by first | (with_reducible assumption) | assumption)
              have hx5 := bt_at a0 x1_1
              replace p5 := eq_true p5
              replace q5 := eq_true q5
              have p11 : 0 ≤ (x1_1 : Int) := of_decide_eq_true (by first | (with_reducible assumption) | assumption)
              have q11 : x1_1 < (a0.size : Int) := of_decide_eq_true (by first | (with_reducible assumption) | assumption)
              have hx11 := bt_at a0 x1_1
              replace p11 := eq_true p11
              replace q11 := eq_true q11
              go_wp2
              go_roundg k1
              case measure => have := HK1.out; omega
              case rel => exact ⟨(wrap64 (x1_1 + 1)), (by first | rfl | (simp; done) | (simp [*]; done)), H', ⟨by have := HK1.out; omega⟩, by repeat (first | exact Drawn0.refl _ | apply Drawn0.step)⟩
            · rw [if_neg c12] at H
              have c12b0 : ((bt a0 x1_1) == 32) = false := beq_eq_false_iff_ne.mpr c12
              have c12b1 : ((bt a0 x1_1) != 32) = true := bne_iff_ne.mpr c12
              by_cases c14 : (bt a0 x1_1) = 10
              · rw [if_pos c14] at H
                have c14b0 : ((bt a0 x1_1) == 10) = true := beq_iff_eq.mpr c14
                have c14b1 : ((bt a0 x1_1) != 10) = false := bne_eq_false_iff_eq.mpr c14
                clear c14
                have H' := Aside0.mk H
                clear H
                have p5 : 0 ≤ (x1_1 : Int) := of_decide_eq_true (by first | (with_reducible assumption) | assumption)
                have q5 : x1_1 < (a0.size : Int) := of_decide_eq_true (by first | (with_reducible assumption) | assumption)
                have hx5 := bt_at a0 x1_1
                replace p5 := eq_true p5
                replace q5 := eq_true q5
                have p11 : 0 ≤ (x1_1 : Int) := of_decide_eq_true (by first | (with_reducible assumption) | assumption)
                have q11 : x1_1 < (a0.size : Int) := of_decide_eq_true (by first | (with_reducible assumption) | assumption)
                have hx11 := bt_at a0 x1_1
                replace p11 := eq_true p11
                replace q11 := eq_true q11
                have p13 : 0 ≤ (x1_1 : Int) := of_decide_eq_true (by first | (with_reducible assumption) | assumption)
                have q13 : x1_1 < (a0.size : Int) := of_decide_eq_true (by first | (with_reducible assumption) | assumption)
                have hx13 := bt_at a0 x1_1
                replace p13 := eq_true p13
                replace q13 := eq_true q13
                go_wp2
                go_roundg k1
                case measure => have := HK1.out; omega
                case rel => exact ⟨(wrap64 (x1_1 + 1)), (by first | rfl | (simp; done) | (simp [*]; done)), H', ⟨by have := HK1.out; omega⟩, by repeat (first | exact Drawn0.refl _ | apply Drawn0.step)⟩
              · rw [if_neg c14] at H
                have c14b0 : ((bt a0 x1_1) == 10) = false := beq_eq_false_iff_ne.mpr c14
                have c14b1 : ((bt a0 x1_1) != 10) = true := bne_iff_ne.mpr c14
                obtain rfl := Option.some.inj H
                have p5 : 0 ≤ (x1_1 : Int) := of_decide_eq_true (by first | (with_reducible assumption) | assumption)
                have q5 : x1_1 < (a0.size : Int) := of_decide_eq_true (by first | (with_reducible assumption) | assumption)
                have hx5 := bt_at a0 x1_1
                replace p5 := eq_true p5
                replace q5 := eq_true q5
                have p11 : 0 ≤ (x1_1 : Int) := of_decide_eq_true (by first | (with_reducible assumption) | assumption)
                have q11 : x1_1 < (a0.size : Int) := of_decide_eq_true (by first | (with_reducible assumption) | assumption)
                have hx11 := bt_at a0 x1_1
                replace p11 := eq_true p11
                replace q11 := eq_true q11
                have p13 : 0 ≤ (x1_1 : Int) := of_decide_eq_true (by first | (with_reducible assumption) | assumption)
                have q13 : x1_1 < (a0.size : Int) := of_decide_eq_true (by first | (with_reducible assumption) | assumption)
                have hx13 := bt_at a0 x1_1
                replace p13 := eq_true p13
                replace q13 := eq_true q13
                go_wp2
                go_ret
                exact ⟨by first | rfl | (simp; done) | (simp [*]; done), by repeat (first | exact Drawn0.refl _ | apply Drawn0.step)⟩
        · rw [if_neg c4] at H
          exact absurd H (by simp)
      · rw [if_neg c3] at H
        have c3b0 : decide (x1_1 < (a0.size : Int)) = false := decide_eq_false c3
        clear c3
        obtain rfl := Option.some.inj H
        go_wp2
        go_ret
        exact ⟨by first | rfl | (simp; done) | (simp [*]; done), by repeat (first | exact Drawn0.refl _ | apply Drawn0.step)⟩
def spoondriftref05_letter.f (a0 : Int) : Option (Bool) := if a0 ≥ 97 then (some (decide (a0 ≤ 122))) else (some false)
set_option maxHeartbeats 8000000 in
set_option maxRecDepth 100000 in
theorem spoondriftref05_letter.calls (a0 : Int) (r : Bool) (w : World) (h : spoondriftref05_letter.f a0 = some r) :
    Calls Tryz.prog 171 #[.int .u8 a0] w fun e w' => e = .returned (.bool r) ∧ Drawn0 w w' := by
  have H : (if a0 ≥ 97 then (some (decide (a0 ≤ 122))) else (some false)) = some r := h
  clear h
  by_cases c2 : a0 ≥ 97
  · rw [if_pos c2] at H
    have c2b0 : decide (97 ≤ a0) = true := decide_eq_true c2
    clear c2
    obtain rfl := Option.some.inj H
    go_enter Tryz.func171, Tryz.ntmps171
    go_wp2
    go_ret
    exact ⟨by first | rfl | (simp; done) | (simp [*]; done), by repeat (first | exact Drawn0.refl _ | apply Drawn0.step)⟩
  · rw [if_neg c2] at H
    have c2b0 : decide (97 ≤ a0) = false := decide_eq_false c2
    clear c2
    obtain rfl := Option.some.inj H
    go_enter Tryz.func171, Tryz.ntmps171
    go_wp2
    go_ret
    exact ⟨by first | rfl | (simp; done) | (simp [*]; done), by repeat (first | exact Drawn0.refl _ | apply Drawn0.step)⟩
def spoondriftref05_digit.f (a0 : Int) : Option (Bool) := if a0 ≥ 48 then (some (decide (a0 ≤ 57))) else (some false)
set_option maxHeartbeats 8000000 in
set_option maxRecDepth 100000 in
theorem spoondriftref05_digit.calls (a0 : Int) (r : Bool) (w : World) (h : spoondriftref05_digit.f a0 = some r) :
    Calls Tryz.prog 172 #[.int .u8 a0] w fun e w' => e = .returned (.bool r) ∧ Drawn0 w w' := by
  have H : (if a0 ≥ 48 then (some (decide (a0 ≤ 57))) else (some false)) = some r := h
  clear h
  by_cases c2 : a0 ≥ 48
  · rw [if_pos c2] at H
    have c2b0 : decide (48 ≤ a0) = true := decide_eq_true c2
    clear c2
    obtain rfl := Option.some.inj H
    go_enter Tryz.func172, Tryz.ntmps172
    go_wp2
    go_ret
    exact ⟨by first | rfl | (simp; done) | (simp [*]; done), by repeat (first | exact Drawn0.refl _ | apply Drawn0.step)⟩
  · rw [if_neg c2] at H
    have c2b0 : decide (48 ≤ a0) = false := decide_eq_false c2
    clear c2
    obtain rfl := Option.some.inj H
    go_enter Tryz.func172, Tryz.ntmps172
    go_wp2
    go_ret
    exact ⟨by first | rfl | (simp; done) | (simp [*]; done), by repeat (first | exact Drawn0.refl _ | apply Drawn0.step)⟩
end Go.Proofs.YtonnegkpjmhomaaGreatDoorPR
end
section
namespace Go.Proofs.YtonnegkpjmhomaaGreatDoorPR
open Go.RowKit Go.Proofs.YtonnegkpjmhomaaGreatDoorW.PrintWords Go.Proofs.YtonnegkpjmhomaaGreatDoorW.PrintLast Go.Proofs.YtonnegkpjmhomaaGreatDoorW.PrintMore
attribute [local go_sem] max2_int min2_int max_two min_two max_three min_three max_four min_four
set_option linter.unusedVariables false
set_option linter.unusedSimpArgs false
mutual
def spoondriftref05_Cut.l0 : Nat → ByteArray → Int → Int → Int → Int → ByteArray → Option (Int × Int × ByteArray × Int)
  | 0, _, _, _, _, _, _ => none
  | k + 1, x0, x1, x11, x103000, x103001, x103002 => if x11 < (x0.size : Int) then (if 0 ≤ x11 then ((spoondriftref05_letter.f (bt x0 x11)).bind fun t104 => (spoondriftref05_Cut.j1 k x0 x1 x11 t104 x103000 x103001 x103002)) else (none)) else (spoondriftref05_Cut.j1 k x0 x1 x11 false x103000 x103001 x103002)
def spoondriftref05_Cut.j1 : Nat → ByteArray → Int → Int → Bool → Int → Int → ByteArray → Option (Int × Int × ByteArray × Int)
  | 0, _, _, _, _, _, _, _ => none
  | k + 1, x0, x1, x11, x31, x103000, x103001, x103002 => if x31 = true then (if (x103002.size : Int) = 8 then (some (x103000, x103001, x103002, x11)) else (if 0 ≤ x1 then (if x1 ≤ (wrap64 (x11 + 1)) then (if (wrap64 (x11 + 1)) ≤ (x0.size : Int) then (spoondriftref05_Cut.l0 k x0 x1 (wrap64 (x11 + 1)) x103000 x103001 (x0.extract (x1 : Int).toNat ((wrap64 (x11 + 1)) : Int).toNat)) else (none)) else (none)) else (none))) else (some (x103000, x103001, x103002, (-1)))
def spoondriftref05_Cut.l1 : Nat → ByteArray → Int → Int → Int → Int → Int → ByteArray → Option (Int × Int × ByteArray × Int)
  | 0, _, _, _, _, _, _, _ => none
  | k + 1, x0, x1, x2, x12, x103000, x103001, x103002 => if x12 < (x0.size : Int) then (if 0 ≤ x12 then ((spoondriftref05_digit.f (bt x0 x12)).bind fun t106 => (spoondriftref05_Cut.j3 k x0 x1 x2 x12 t106 x103000 x103001 x103002)) else (none)) else (spoondriftref05_Cut.j3 k x0 x1 x2 x12 false x103000 x103001 x103002)
def spoondriftref05_Cut.j3 : Nat → ByteArray → Int → Int → Int → Bool → Int → Int → ByteArray → Option (Int × Int × ByteArray × Int)
  | 0, _, _, _, _, _, _, _, _ => none
  | k + 1, x0, x1, x2, x12, x62, x103000, x103001, x103002 => if x62 = true then (if (x103002.size : Int) = x2 then (some (x103000, x103001, x103002, x12)) else (if x103002.toList = ([48] : List UInt8) then (some (x103000, x103001, x103002, x12)) else (if 0 ≤ x1 then (if x1 ≤ (wrap64 (x12 + 1)) then (if (wrap64 (x12 + 1)) ≤ (x0.size : Int) then (spoondriftref05_Cut.l1 k x0 x1 x2 (wrap64 (x12 + 1)) x103000 x103001 (x0.extract (x1 : Int).toNat ((wrap64 (x12 + 1)) : Int).toNat)) else (none)) else (none)) else (none)))) else (some (x103000, x103001, x103002, (-1)))
def spoondriftref05_Cut.l2 : Nat → ByteArray → Int → ByteArray → Int → Int → Int → ByteArray → Option (Int × Int × ByteArray × Int)
  | 0, _, _, _, _, _, _, _ => none
  | k + 1, x0, x1, x3, x13, x103000, x103001, x103002 => if x13 < (x3.size : Int) then (if 0 ≤ x13 then (if 0 ≤ x1 then (if x1 < (x0.size : Int) then (if (bt x3 x13) = (bt x0 x1) then (if x1 ≤ (wrap64 (x1 + 1)) then (if (wrap64 (x1 + 1)) ≤ (x0.size : Int) then (some (x103000, wrap64 (bt x0 x1), x0.extract (x1 : Int).toNat ((wrap64 (x1 + 1)) : Int).toNat, (-1))) else (none)) else (none)) else (spoondriftref05_Cut.l2 k x0 x1 x3 (wrap64 (x13 + 1)) x103000 x103001 x103002)) else (none)) else (none)) else (none)) else (some (x103000, x103001, x103002, x1))
end
def spoondriftref05_Cut.f (k : Nat) (a0 : ByteArray) (a1 : Int) (a2 : Int) (a3 : ByteArray) : Option (Int × Int × ByteArray × Int) := if 0 ≤ a1 then (if a1 < (a0.size : Int) then ((spoondriftref05_letter.f (bt a0 a1)).bind fun t103 => (if t103 = true then (spoondriftref05_Cut.l0 k a0 a1 a1 a1 1 (⟨#[]⟩ : ByteArray)) else ((spoondriftref05_digit.f (bt a0 a1)).bind fun t105 => (if t105 = true then (spoondriftref05_Cut.l1 k a0 a1 a2 a1 a1 2 (⟨#[]⟩ : ByteArray)) else (spoondriftref05_Cut.l2 k a0 a1 a3 0 a1 0 (⟨#[]⟩ : ByteArray)))))) else (none)) else (none)
theorem spoondriftref05_Cut.mono_l : ∀ k, (∀ y0 y1 y2 y3 y4 y5, LeO (spoondriftref05_Cut.l0 k y0 y1 y2 y3 y4 y5) (spoondriftref05_Cut.l0 (k + 1) y0 y1 y2 y3 y4 y5)) ∧ (∀ y0 y1 y2 y3 y4 y5 y6, LeO (spoondriftref05_Cut.j1 k y0 y1 y2 y3 y4 y5 y6) (spoondriftref05_Cut.j1 (k + 1) y0 y1 y2 y3 y4 y5 y6)) ∧ (∀ y0 y1 y2 y3 y4 y5 y6, LeO (spoondriftref05_Cut.l1 k y0 y1 y2 y3 y4 y5 y6) (spoondriftref05_Cut.l1 (k + 1) y0 y1 y2 y3 y4 y5 y6)) ∧ (∀ y0 y1 y2 y3 y4 y5 y6 y7, LeO (spoondriftref05_Cut.j3 k y0 y1 y2 y3 y4 y5 y6 y7) (spoondriftref05_Cut.j3 (k + 1) y0 y1 y2 y3 y4 y5 y6 y7)) ∧ (∀ y0 y1 y2 y3 y4 y5 y6, LeO (spoondriftref05_Cut.l2 k y0 y1 y2 y3 y4 y5 y6) (spoondriftref05_Cut.l2 (k + 1) y0 y1 y2 y3 y4 y5 y6))
  | 0 => ⟨fun _ _ _ _ _ _ r h => by simp [spoondriftref05_Cut.l0] at h, fun _ _ _ _ _ _ _ r h => by simp [spoondriftref05_Cut.j1] at h, fun _ _ _ _ _ _ _ r h => by simp [spoondriftref05_Cut.l1] at h, fun _ _ _ _ _ _ _ _ r h => by simp [spoondriftref05_Cut.j3] at h, fun _ _ _ _ _ _ _ r h => by simp [spoondriftref05_Cut.l2] at h⟩
  | k + 1 => by
    obtain ⟨ih0, ih1, ih2, ih3, ih4⟩ := spoondriftref05_Cut.mono_l k
    refine ⟨?_, ?_, ?_, ?_, ?_⟩
    · intro y0 y1 y2 y3 y4 y5
      unfold spoondriftref05_Cut.l0
      repeat' first
      | (with_reducible exact ih0 _ _ _ _ _ _)
      | (with_reducible exact ih1 _ _ _ _ _ _ _)
      | (with_reducible exact ih2 _ _ _ _ _ _ _)
      | (with_reducible exact ih3 _ _ _ _ _ _ _ _)
      | (with_reducible exact ih4 _ _ _ _ _ _ _)
      | (with_reducible exact LeO.refl _)
      | (with_reducible exact LeO.none _)
      | (with_reducible refine LeO.ite ?_ ?_)
      | (with_reducible refine LeO.bind ?_ (fun _ => ?_))
      | exact ih0 _ _ _ _ _ _
      | exact ih1 _ _ _ _ _ _ _
      | exact ih2 _ _ _ _ _ _ _
      | exact ih3 _ _ _ _ _ _ _ _
      | exact ih4 _ _ _ _ _ _ _
      | exact LeO.none _
      | refine LeO.ite ?_ ?_
      | refine LeO.bind ?_ (fun _ => ?_)
    · intro y0 y1 y2 y3 y4 y5 y6
      unfold spoondriftref05_Cut.j1
      repeat' first
      | (with_reducible exact ih0 _ _ _ _ _ _)
      | (with_reducible exact ih1 _ _ _ _ _ _ _)
      | (with_reducible exact ih2 _ _ _ _ _ _ _)
      | (with_reducible exact ih3 _ _ _ _ _ _ _ _)
      | (with_reducible exact ih4 _ _ _ _ _ _ _)
      | (with_reducible exact LeO.refl _)
      | (with_reducible exact LeO.none _)
      | (with_reducible refine LeO.ite ?_ ?_)
      | (with_reducible refine LeO.bind ?_ (fun _ => ?_))
      | exact ih0 _ _ _ _ _ _
      | exact ih1 _ _ _ _ _ _ _
      | exact ih2 _ _ _ _ _ _ _
      | exact ih3 _ _ _ _ _ _ _ _
      | exact ih4 _ _ _ _ _ _ _
      | exact LeO.none _
      | refine LeO.ite ?_ ?_
      | refine LeO.bind ?_ (fun _ => ?_)
    · intro y0 y1 y2 y3 y4 y5 y6
      unfold spoondriftref05_Cut.l1
      repeat' first
      | (with_reducible exact ih0 _ _ _ _ _ _)
      | (with_reducible exact ih1 _ _ _ _ _ _ _)
      | (with_reducible exact ih2 _ _ _ _ _ _ _)
      | (with_reducible exact ih3 _ _ _ _ _ _ _ _)
      | (with_reducible exact ih4 _ _ _ _ _ _ _)
      | (with_reducible exact LeO.refl _)
      | (with_reducible exact LeO.none _)
      | (with_reducible refine LeO.ite ?_ ?_)
      | (with_reducible refine LeO.bind ?_ (fun _ => ?_))
      | exact ih0 _ _ _ _ _ _
      | exact ih1 _ _ _ _ _ _ _
      | exact ih2 _ _ _ _ _ _ _
      | exact ih3 _ _ _ _ _ _ _ _
      | exact ih4 _ _ _ _ _ _ _
      | exact LeO.none _
      | refine LeO.ite ?_ ?_
      | refine LeO.bind ?_ (fun _ => ?_)
    · intro y0 y1 y2 y3 y4 y5 y6 y7
      unfold spoondriftref05_Cut.j3
      repeat' first
      | (with_reducible exact ih0 _ _ _ _ _ _)
      | (with_reducible exact ih1 _ _ _ _ _ _ _)
      | (with_reducible exact ih2 _ _ _ _ _ _ _)
      | (with_reducible exact ih3 _ _ _ _ _ _ _ _)
      | (with_reducible exact ih4 _ _ _ _ _ _ _)
      | (with_reducible exact LeO.refl _)
      | (with_reducible exact LeO.none _)
      | (with_reducible refine LeO.ite ?_ ?_)
      | (with_reducible refine LeO.bind ?_ (fun _ => ?_))
      | exact ih0 _ _ _ _ _ _
      | exact ih1 _ _ _ _ _ _ _
      | exact ih2 _ _ _ _ _ _ _
      | exact ih3 _ _ _ _ _ _ _ _
      | exact ih4 _ _ _ _ _ _ _
      | exact LeO.none _
      | refine LeO.ite ?_ ?_
      | refine LeO.bind ?_ (fun _ => ?_)
    · intro y0 y1 y2 y3 y4 y5 y6
      unfold spoondriftref05_Cut.l2
      repeat' first
      | (with_reducible exact ih0 _ _ _ _ _ _)
      | (with_reducible exact ih1 _ _ _ _ _ _ _)
      | (with_reducible exact ih2 _ _ _ _ _ _ _)
      | (with_reducible exact ih3 _ _ _ _ _ _ _ _)
      | (with_reducible exact ih4 _ _ _ _ _ _ _)
      | (with_reducible exact LeO.refl _)
      | (with_reducible exact LeO.none _)
      | (with_reducible refine LeO.ite ?_ ?_)
      | (with_reducible refine LeO.bind ?_ (fun _ => ?_))
      | exact ih0 _ _ _ _ _ _
      | exact ih1 _ _ _ _ _ _ _
      | exact ih2 _ _ _ _ _ _ _
      | exact ih3 _ _ _ _ _ _ _ _
      | exact ih4 _ _ _ _ _ _ _
      | exact LeO.none _
      | refine LeO.ite ?_ ?_
      | refine LeO.bind ?_ (fun _ => ?_)
theorem spoondriftref05_Cut.mono : ∀ a0 a1 a2 a3 k, LeO (spoondriftref05_Cut.f k a0 a1 a2 a3) (spoondriftref05_Cut.f (k + 1) a0 a1 a2 a3) := by
  intro a0 a1 a2 a3 k
  obtain ⟨ih0, ih1, ih2, ih3, ih4⟩ := spoondriftref05_Cut.mono_l k
  unfold spoondriftref05_Cut.f
  repeat' first
      | (with_reducible exact ih0 _ _ _ _ _ _)
      | (with_reducible exact ih1 _ _ _ _ _ _ _)
      | (with_reducible exact ih2 _ _ _ _ _ _ _)
      | (with_reducible exact ih3 _ _ _ _ _ _ _ _)
      | (with_reducible exact ih4 _ _ _ _ _ _ _)
      | (with_reducible exact LeO.refl _)
      | (with_reducible exact LeO.none _)
      | (with_reducible refine LeO.ite ?_ ?_)
      | (with_reducible refine LeO.bind ?_ (fun _ => ?_))
      | exact ih0 _ _ _ _ _ _
      | exact ih1 _ _ _ _ _ _ _
      | exact ih2 _ _ _ _ _ _ _
      | exact ih3 _ _ _ _ _ _ _ _
      | exact ih4 _ _ _ _ _ _ _
      | exact LeO.none _
      | refine LeO.ite ?_ ?_
      | refine LeO.bind ?_ (fun _ => ?_)
def spoondriftref05_Cut.T24 : Bool × List (List Nat × List Nat) := (true, [([], []), ([], []), ([0, 1], [0, 1]), ([2], [2]), ([], []), ([], []), ([], []), ([6], [6]), ([4, 5, 7], [4, 5, 7]), ([0, 1, 2, 3], []), ([9, 3, 0, 1, 2, 3], [3, 9]), ([0, 1, 2, 3, 4, 5, 6, 7, 8, 9, 10], []), ([11, 8, 10, 0, 1, 2, 3, 4, 5, 6, 7, 8, 9, 10], [8, 11])])
def spoondriftref05_Cut.B24 : List Nat := [0, 0, 3, 7, 0, 0, 0, 64, 240, 15, 527, 2047, 4095]
theorem spoondriftref05_Cut.tab24 : rtab .any (opsOf Tryz.f150 24) = spoondriftref05_Cut.T24 := by kernel_rfl
theorem spoondriftref05_Cut.bits24 : waitsOk spoondriftref05_Cut.T24.2 spoondriftref05_Cut.B24 = true := by kernel_rfl
set_option maxHeartbeats 8000000 in
set_option maxRecDepth 100000 in
theorem spoondriftref05_Cut.calls (k : Nat) (a0 : ByteArray) (a1 : Int) (a2 : Int) (a3 : ByteArray) (r1 : Int) (r2 : Int) (r3 : ByteArray) (r4 : Int) (w : World) (h : spoondriftref05_Cut.f k a0 a1 a2 a3 = some (r1, r2, r3, r4)) :
    Calls Tryz.prog 150 #[.string a0, .int .i64 a1, .int .i64 a2, .string a3] w fun e w' => e = .returned (.tuple #[.agg #[.int .i64 r1, .int .i64 r2, .string r3], .int .i64 r4]) ∧ Below w.heap.size w w' := by
  have hu104 := Tryz.underlying104
  have HB := Aside0.mk (Below.refl w.heap.size w)
  have H : (if 0 ≤ a1 then (if a1 < (a0.size : Int) then ((spoondriftref05_letter.f (bt a0 a1)).bind fun t103 => (if t103 = true then (spoondriftref05_Cut.l0 k a0 a1 a1 a1 1 (⟨#[]⟩ : ByteArray)) else ((spoondriftref05_digit.f (bt a0 a1)).bind fun t105 => (if t105 = true then (spoondriftref05_Cut.l1 k a0 a1 a2 a1 a1 2 (⟨#[]⟩ : ByteArray)) else (spoondriftref05_Cut.l2 k a0 a1 a3 0 a1 0 (⟨#[]⟩ : ByteArray)))))) else (none)) else (none)) = some (r1, r2, r3, r4) := h
  clear h
  by_cases c5 : 0 ≤ a1
  · rw [if_pos c5] at H
    have c5b0 : decide (0 ≤ a1) = true := decide_eq_true c5
    clear c5
    by_cases c6 : a1 < (a0.size : Int)
    · rw [if_pos c6] at H
      have c6b0 : decide (a1 < (a0.size : Int)) = true := decide_eq_true c6
      clear c6
      replace H := Option.bind_eq_some_iff.mp H
      obtain ⟨t103, A80, H⟩ := H
      replace H : (if t103 = true then (spoondriftref05_Cut.l0 k a0 a1 a1 a1 1 (⟨#[]⟩ : ByteArray)) else ((spoondriftref05_digit.f (bt a0 a1)).bind fun t105 => (if t105 = true then (spoondriftref05_Cut.l1 k a0 a1 a2 a1 a1 2 (⟨#[]⟩ : ByteArray)) else (spoondriftref05_Cut.l2 k a0 a1 a3 0 a1 0 (⟨#[]⟩ : ByteArray))))) = some (r1, r2, r3, r4) := H
      have A8 := Aside0.mk A80
      clear A80
      by_cases c9 : t103 = true
      · subst c9
        have H1 : (spoondriftref05_Cut.l0 k a0 a1 a1 a1 1 (⟨#[]⟩ : ByteArray)) = some (r1, r2, r3, r4) := by rw [if_pos rfl] at H; exact H
        clear H
        have H := H1
        clear H1
        have H' := Aside0.mk H
        clear H
        go_enter Tryz.func150, Tryz.ntmps150
        go_wp2_with (first | ((with_reducible refine gate_dst (N := 8) rfl ?_); refine box_event ?hg (N := 8) ?hd (cs := #[.int .i64 0, .int .i64 0, .string (⟨#[]⟩ : ByteArray)]) (t := 104) ?hr ?_; (case hd => rfl); (case hg => rfl); (case hr => first | (go_simp; done) | (go_simp; rfl)); intro gb101 hg w10 hbox hb; have n0_ := Aside0.mk (below_step (by repeat (first | (with_reducible first | exact HB.out | apply below_alloc | apply pw_below_drewN | apply below_drew1) | exact HB.out)) hb); have n1_ := Aside0.mk (hbox); have n2_ := Aside0.mk ((by rw [hg]; exact (below_size (by repeat (first | (with_reducible first | exact HB.out | apply below_alloc | apply pw_below_drewN | apply below_drew1) | exact HB.out))) : w.heap.size ≤ gb101)); have n3_ := Aside0.mk ((by rw [hg]; exact (below_size (by repeat (first | (with_reducible first | exact HB.out | apply below_alloc | apply pw_below_drewN | apply below_drew1) | exact HB.out))) : w.heap.size ≤ gb101)); clear HB; have HB := n0_; have BK101 := n1_; have GW101 := n2_; have GE101 := n3_; clear n0_ n1_ n2_ n3_; clear hb hbox hg) | ((with_reducible refine gate_dst (N := 10) rfl ?_); refine box_event ?hg (N := 10) ?hd (cs := #[.int .i64 0, .int .i64 0, .string (⟨#[]⟩ : ByteArray)]) (t := 104) ?hr ?_; (case hd => rfl); (case hg => rfl); (case hr => first | (go_simp; done) | (go_simp; rfl)); intro gb102 hg w11 hbox hb; have n0_ := Aside0.mk (blk_below (g := gb101) (o := .cells #[.int .i64 0, .int .i64 0, .string (⟨#[]⟩ : ByteArray)] 104 (0, 0)) (by (with_reducible repeat (first | refine blk_drewN ?_ _ | refine blk_drew ?_ | refine blk_alloc ?_ _)); exact BK101.out) hb); have n1_ := Aside0.mk (below_step (by repeat (first | (with_reducible first | exact HB.out | apply below_alloc | apply pw_below_drewN | apply below_drew1 | refine below_set ?_ GE101.out) | exact HB.out)) hb); have n2_ := Aside0.mk (hbox); have n3_ := Aside0.mk ((by rw [hg]; exact (below_size (by repeat (first | (with_reducible first | exact HB.out | apply below_alloc | apply pw_below_drewN | apply below_drew1 | refine below_set ?_ GE101.out) | exact HB.out))) : w.heap.size ≤ gb102)); have n4_ := Aside0.mk ((by rw [hg]; exact (below_size (by repeat (first | (with_reducible first | exact HB.out | apply below_alloc | apply pw_below_drewN | apply below_drew1 | refine below_set ?_ GE101.out) | exact HB.out))) : w.heap.size ≤ gb102)); have n5_ := Aside0.mk ((by rw [hg]; exact Nat.ne_of_lt (blk_lt (g := gb101) (o := .cells #[.int .i64 0, .int .i64 0, .string (⟨#[]⟩ : ByteArray)] 104 (0, 0)) (by (with_reducible repeat (first | refine blk_drewN ?_ _ | refine blk_drew ?_ | refine blk_alloc ?_ _)); exact BK101.out)) : gb101 ≠ gb102)); have n6_ := Aside0.mk ((by rw [hg]; exact Nat.ne_of_gt (blk_lt (g := gb101) (o := .cells #[.int .i64 0, .int .i64 0, .string (⟨#[]⟩ : ByteArray)] 104 (0, 0)) (by (with_reducible repeat (first | refine blk_drewN ?_ _ | refine blk_drew ?_ | refine blk_alloc ?_ _)); exact BK101.out)) : gb102 ≠ gb101)); clear BK101; clear HB; have BK101 := n0_; have HB := n1_; have BK102 := n2_; have GW102 := n3_; have GE102 := n4_; have NB101_102 := n5_; have NB102_101 := n6_; clear n0_ n1_ n2_ n3_ n4_ n5_ n6_; clear hb hbox hg; have hnb12 := NB102_101.out; have hnc12 := NB101_102.out; have hcz13_0 : w11.cell? ⟨gb102, 0, none⟩ = some (.int .i64 0) := (blk_cell BK102.out 0).trans rfl; have hcz13_1 : w11.cell? ⟨gb102, 1, none⟩ = some (.int .i64 0) := (blk_cell BK102.out 1).trans rfl; have hcz13_2 : w11.cell? ⟨gb102, 2, none⟩ = some (.string (⟨#[]⟩ : ByteArray)) := (blk_cell BK102.out 2).trans rfl; have hfz13_0 := blk_frozen BK102.out 0; have hfz13_1 := blk_frozen BK102.out 1; have hfz13_2 := blk_frozen BK102.out 2; have p7 : 0 ≤ (a1 : Int) := of_decide_eq_true (by first | (with_reducible assumption) | assumption); have q7 : a1 < (a0.size : Int) := of_decide_eq_true (by first | (with_reducible assumption) | assumption); have hx7 := bt_at a0 a1; replace p7 := eq_true p7; replace q7 := eq_true q7) | ((with_reducible refine gate_callee (f := 171) rfl ?_); refine goesL_ (some 19) rfl rfl Tryz.func171 (by kernel_rfl) rfl #[.int .u8 (bt a0 a1)] rfl (by (try simp only [List.map_toArray, List.map_cons, List.map_nil]); first | done | rfl | (simp only [List.length_drop, List.length_take]; rfl)) ?_; (with_reducible refine (spoondriftref05_letter.calls (bt a0 a1) true _ A8.out).mono ?_); rintro e w' ⟨rfl, ⟨nd, rfl⟩⟩; refine ⟨_, rfl, ?_⟩))
        (try simp only [Act.put, List.setIfInBounds_toArray, List.set_cons_zero, List.set_cons_succ])
        go_loopg [11] k (fun kq v11 w' => ∃ (x11_1 : Int) (x102000_1 : Int) (x102001_1 : Int) (x102002_1 : ByteArray) (x103002_1 : ByteArray), v11 = .int .i64 x11_1 ∧ Aside0 (spoondriftref05_Cut.l0 kq a0 a1 x11_1 a1 1 x103002_1 = some (r1, r2, r3, r4)) ∧ Aside0 (kq ≤ k) ∧ Aside0 (w'.heap[gb101]? = some (.cells #[.int .i64 x102000_1, .int .i64 x102001_1, .string x102002_1] 104 (0, 0))) ∧ Aside0 (w'.heap[gb102]? = some (.cells #[.int .i64 a1, .int .i64 1, .string x103002_1] 104 (0, 0))) ∧ Aside0 (Below w.heap.size w w'))
        case atStart => exact ⟨(a1), (0), (0), ((⟨#[]⟩ : ByteArray)), ((⟨#[]⟩ : ByteArray)), (by first | rfl | (simp; done) | (simp [*]; done)), H', ⟨Nat.le_refl _⟩, ⟨by (with_reducible repeat (first | refine blk_drewN ?_ _ | refine blk_drew ?_ | refine blk_alloc ?_ _)); refine blk_far ?_ NB101_102.out _; (with_reducible repeat (first | refine blk_drewN ?_ _ | refine blk_drew ?_ | refine blk_alloc ?_ _)); refine blk_far ?_ NB101_102.out _; (with_reducible repeat (first | refine blk_drewN ?_ _ | refine blk_drew ?_ | refine blk_alloc ?_ _)); refine blk_far ?_ NB101_102.out _; (with_reducible repeat (first | refine blk_drewN ?_ _ | refine blk_drew ?_ | refine blk_alloc ?_ _)); refine blk_far ?_ NB101_102.out _; (with_reducible repeat (first | refine blk_drewN ?_ _ | refine blk_drew ?_ | refine blk_alloc ?_ _)); exact BK101.out⟩, ⟨by (with_reducible repeat (first | refine blk_drewN ?_ _ | refine blk_drew ?_ | refine blk_alloc ?_ _)); refine blk_put (cs := #[.int .i64 a1, .int .i64 0, .string (⟨#[]⟩ : ByteArray)]) ?_ 1 _ rfl; (with_reducible repeat (first | refine blk_drewN ?_ _ | refine blk_drew ?_ | refine blk_alloc ?_ _)); refine blk_put (cs := #[.int .i64 a1, .int .i64 0, .string (⟨#[]⟩ : ByteArray)]) ?_ 2 _ rfl; (with_reducible repeat (first | refine blk_drewN ?_ _ | refine blk_drew ?_ | refine blk_alloc ?_ _)); refine blk_put (cs := #[.int .i64 a1, .int .i64 0, .string (⟨#[]⟩ : ByteArray)]) ?_ 1 _ rfl; (with_reducible repeat (first | refine blk_drewN ?_ _ | refine blk_drew ?_ | refine blk_alloc ?_ _)); refine blk_put (cs := #[.int .i64 0, .int .i64 0, .string (⟨#[]⟩ : ByteArray)]) ?_ 0 _ rfl; (with_reducible repeat (first | refine blk_drewN ?_ _ | refine blk_drew ?_ | refine blk_alloc ?_ _)); exact BK102.out⟩, ⟨by repeat (first | (with_reducible first | exact HB.out | apply below_alloc | apply pw_below_drewN | apply below_drew1 | refine below_set ?_ GE101.out | refine below_set ?_ GE102.out) | exact HB.out)⟩⟩
        case round =>
          clear H'
          try clear c1
          try clear p2
          try clear c5
          try clear c5b0
          try clear c6
          try clear c6b0
          try clear p7
          try clear q7
          try clear hx7
          try clear c9
          try clear c12
          try clear hcz13_0
          try clear hcz13_1
          try clear hcz13_2
          try clear hfz13_0
          try clear hfz13_1
          try clear hfz13_2
          try clear p7
          try clear q7
          obtain ⟨x11_1, x102000_1, x102001_1, x102002_1, x103002_1, rfl, HA, HK1, BK101, BK102, HB⟩ := hrel
          cases gk with
          | zero => exact absurd HA.out (by simp [spoondriftref05_Cut.l0])
          | succ k1 =>
            have H := HA.out
            clear HA
            simp only [spoondriftref05_Cut.l0] at H
            have HC14 := Aside0.mk H
            clear H
            go_upto_region 5 with (fail)
            go_cut [31] (fun v31 wc => ∃ (kq : Nat) (x31_13 : Bool), v31 = .bool x31_13 ∧ Aside0 (spoondriftref05_Cut.j1 kq a0 a1 x11_1 x31_13 a1 1 x103002_1 = some (r1, r2, r3, r4)) ∧ Aside0 (kq ≤ k1) ∧ Aside0 (wc.heap[gb101]? = some (.cells #[.int .i64 x102000_1, .int .i64 x102001_1, .string x102002_1] 104 (0, 0))) ∧ Aside0 (wc.heap[gb102]? = some (.cells #[.int .i64 a1, .int .i64 1, .string x103002_1] 104 (0, 0))) ∧ Aside0 (Below w.heap.size w wc))
            case first =>
              have H := HC14.out
              clear HC14
              by_cases c15 : x11_1 < (a0.size : Int)
              · rw [if_pos c15] at H
                have c15b0 : decide (x11_1 < (a0.size : Int)) = true := decide_eq_true c15
                clear c15
                (first | rw [c15b0] | (simp only [i64_w, i32_w]; rw [c15b0]) | skip)
                by_cases c16 : 0 ≤ x11_1
                · rw [if_pos c16] at H
                  have c16b0 : decide (0 ≤ x11_1) = true := decide_eq_true c16
                  clear c16
                  replace H := Option.bind_eq_some_iff.mp H
                  obtain ⟨t104, A180, H⟩ := H
                  replace H : (spoondriftref05_Cut.j1 k1 a0 a1 x11_1 t104 a1 1 x103002_1) = some (r1, r2, r3, r4) := H
                  have A18 := Aside0.mk A180
                  clear A180
                  have H' := Aside0.mk H
                  clear H
                  have p17 : 0 ≤ (x11_1 : Int) := of_decide_eq_true (by first | (with_reducible assumption) | assumption)
                  have q17 : x11_1 < (a0.size : Int) := of_decide_eq_true (by first | (with_reducible assumption) | assumption)
                  have hx17 := bt_at a0 x11_1
                  replace p17 := eq_true p17
                  replace q17 := eq_true q17
                  go_wp2_with (first | (go_at_call 171; (with_reducible refine (spoondriftref05_letter.calls (bt a0 x11_1) t104 _ A18.out).mono ?_); rintro e w' ⟨rfl, ⟨nd, rfl⟩⟩))
                  go_meet
                  case rel => exact ⟨_, (t104), (by first | rfl | (simp; done) | (simp [*]; done)), H', ⟨by have := HK1.out; first | omega | exact Nat.le_refl _⟩, ⟨by (with_reducible repeat (first | refine blk_drewN ?_ _ | refine blk_drew ?_ | refine blk_alloc ?_ _)); exact BK101.out⟩, ⟨by (with_reducible repeat (first | refine blk_drewN ?_ _ | refine blk_drew ?_ | refine blk_alloc ?_ _)); exact BK102.out⟩, ⟨by repeat (first | (with_reducible first | exact HB.out | apply below_alloc | apply pw_below_drewN | apply below_drew1 | refine below_set ?_ GE101.out | refine below_set ?_ GE102.out) | exact HB.out)⟩⟩
                · rw [if_neg c16] at H
                  exact absurd H (by simp)
              · rw [if_neg c15] at H
                have c15b0 : decide (x11_1 < (a0.size : Int)) = false := decide_eq_false c15
                clear c15
                (first | rw [c15b0] | (simp only [i64_w, i32_w]; rw [c15b0]) | skip)
                have H' := Aside0.mk H
                clear H
                go_wp2
                go_meet
                case rel => exact ⟨_, (false), (by first | rfl | (simp; done) | (simp [*]; done)), H', ⟨by have := HK1.out; first | omega | exact Nat.le_refl _⟩, ⟨by (with_reducible repeat (first | refine blk_drewN ?_ _ | refine blk_drew ?_ | refine blk_alloc ?_ _)); exact BK101.out⟩, ⟨by (with_reducible repeat (first | refine blk_drewN ?_ _ | refine blk_drew ?_ | refine blk_alloc ?_ _)); exact BK102.out⟩, ⟨by repeat (first | (with_reducible first | exact HB.out | apply below_alloc | apply pw_below_drewN | apply below_drew1 | refine below_set ?_ GE101.out | refine below_set ?_ GE102.out) | exact HB.out)⟩⟩
            case rest =>
              clear HC14
              try clear c1
              try clear p1
              try clear q1
              try clear hx1
              try clear p2
              try clear c5
              try clear c5b0
              try clear c6
              try clear c6b0
              try clear p7
              try clear q7
              try clear hx7
              try clear c9
              try clear c12
              try clear c15
              try clear c15b0
              try clear c16
              try clear c16b0
              try clear c17
              try clear p17
              try clear q17
              try clear hx17
              try clear hcz13_0
              try clear hcz13_1
              try clear hcz13_2
              try clear hfz13_0
              try clear hfz13_1
              try clear hfz13_2
              try clear p17
              try clear p2
              try clear p7
              try clear q17
              try clear q7
              obtain ⟨kq, x31_13, rfl, HA, HJ13, BK101, BK102, HB⟩ := hcut
              cases kq with
              | zero => exact absurd HA.out (by simp [spoondriftref05_Cut.j1])
              | succ kj13 =>
                have H := HA.out
                clear HA
                simp only [spoondriftref05_Cut.j1] at H
                by_cases c19 : x31_13 = true
                · subst c19
                  have H1 : (if (x103002_1.size : Int) = 8 then (some (a1, 1, x103002_1, x11_1)) else (if 0 ≤ a1 then (if a1 ≤ (wrap64 (x11_1 + 1)) then (if (wrap64 (x11_1 + 1)) ≤ (a0.size : Int) then (spoondriftref05_Cut.l0 kj13 a0 a1 (wrap64 (x11_1 + 1)) a1 1 (a0.extract (a1 : Int).toNat ((wrap64 (x11_1 + 1)) : Int).toNat)) else (none)) else (none)) else (none))) = some (r1, r2, r3, r4) := by rw [if_pos rfl] at H; exact H
                  clear H
                  have H := H1
                  clear H1
                  by_cases c20 : (x103002_1.size : Int) = 8
                  · rw [if_pos c20] at H
                    have c20b0 : ((x103002_1.size : Int) == 8) = true := beq_iff_eq.mpr c20
                    have c20b1 : ((x103002_1.size : Int) != 8) = false := bne_eq_false_iff_eq.mpr c20
                    clear c20
                    simp only [Option.some.injEq, Prod.mk.injEq] at H
                    obtain ⟨rfl, rfl, rfl, rfl⟩ := H
                    have hnb21 := NB102_101.out
                    have hnc21 := NB101_102.out
                    have hcz22_0 : wc.cell? ⟨gb102, 0, none⟩ = some (.int .i64 a1) := (blk_cell BK102.out 0).trans rfl
                    have hcz22_1 : wc.cell? ⟨gb102, 1, none⟩ = some (.int .i64 1) := (blk_cell BK102.out 1).trans rfl
                    have hcz22_2 : wc.cell? ⟨gb102, 2, none⟩ = some (.string x103002_1) := (blk_cell BK102.out 2).trans rfl
                    have hfz22_0 := blk_frozen BK102.out 0
                    have hfz22_1 := blk_frozen BK102.out 1
                    have hfz22_2 := blk_frozen BK102.out 2
                    have hcz23_0 : wc.cell? ⟨gb101, 0, none⟩ = some (.int .i64 x102000_1) := (blk_cell BK101.out 0).trans rfl
                    have hcz23_1 : wc.cell? ⟨gb101, 1, none⟩ = some (.int .i64 x102001_1) := (blk_cell BK101.out 1).trans rfl
                    have hcz23_2 : wc.cell? ⟨gb101, 2, none⟩ = some (.string x102002_1) := (blk_cell BK101.out 2).trans rfl
                    have hfz23_0 := blk_frozen BK101.out 0
                    have hfz23_1 := blk_frozen BK101.out 1
                    have hfz23_2 := blk_frozen BK101.out 2
                    go_wp2
                    refine bodyPost_ret (results_ct rfl _ _ gb101 104 #[.int .i64 a1, .int .i64 1, .string x103002_1] (0, 0) _ rfl (by (with_reducible repeat (first | refine blk_drewN ?_ _ | refine blk_drew ?_ | refine blk_alloc ?_ _)); refine blk_put (cs := #[.int .i64 a1, .int .i64 1, .string x102002_1]) ?_ 2 _ rfl; (with_reducible repeat (first | refine blk_drewN ?_ _ | refine blk_drew ?_ | refine blk_alloc ?_ _)); refine blk_put (cs := #[.int .i64 a1, .int .i64 x102001_1, .string x102002_1]) ?_ 1 _ rfl; (with_reducible repeat (first | refine blk_drewN ?_ _ | refine blk_drew ?_ | refine blk_alloc ?_ _)); refine blk_put (cs := #[.int .i64 x102000_1, .int .i64 x102001_1, .string x102002_1]) ?_ 0 _ rfl; (with_reducible repeat (first | refine blk_drewN ?_ _ | refine blk_drew ?_ | refine blk_alloc ?_ _)); exact BK101.out) Tryz.underlying104 rfl (by kernel_rfl)) rfl ?_
                    exact ⟨by first | rfl | (simp [errW_none, errW_some] <;> rfl) | (simp [*, errW_none, errW_some] <;> rfl), by repeat (first | (with_reducible first | exact HB.out | apply below_alloc | apply pw_below_drewN | apply below_drew1 | refine below_set ?_ GE101.out | refine below_set ?_ GE102.out) | exact HB.out)⟩
                  · rw [if_neg c20] at H
                    have c20b0 : ((x103002_1.size : Int) == 8) = false := beq_eq_false_iff_ne.mpr c20
                    have c20b1 : ((x103002_1.size : Int) != 8) = true := bne_iff_ne.mpr c20
                    by_cases c24 : 0 ≤ a1
                    · rw [if_pos c24] at H
                      have c24b0 := eq_true c24
                      have c24b1 : decide (0 ≤ a1) = true := decide_eq_true c24
                      clear c24
                      by_cases c25 : a1 ≤ (wrap64 (x11_1 + 1))
                      · rw [if_pos c25] at H
                        have c25b0 := eq_true c25
                        have c25b1 : decide (a1 ≤ (wrap64 (x11_1 + 1))) = true := decide_eq_true c25
                        by_cases c26 : (wrap64 (x11_1 + 1)) ≤ (a0.size : Int)
                        · rw [if_pos c26] at H
                          have c26b0 := eq_true c26
                          have c26b1 : decide ((wrap64 (x11_1 + 1)) ≤ (a0.size : Int)) = true := decide_eq_true c26
                          have H' := Aside0.mk H
                          clear H
                          have hnb27 := NB102_101.out
                          have hnc27 := NB101_102.out
                          have hcz28_0 : wc.cell? ⟨gb102, 0, none⟩ = some (.int .i64 a1) := (blk_cell BK102.out 0).trans rfl
                          have hcz28_1 : wc.cell? ⟨gb102, 1, none⟩ = some (.int .i64 1) := (blk_cell BK102.out 1).trans rfl
                          have hcz28_2 : wc.cell? ⟨gb102, 2, none⟩ = some (.string x103002_1) := (blk_cell BK102.out 2).trans rfl
                          have hfz28_0 := blk_frozen BK102.out 0
                          have hfz28_1 := blk_frozen BK102.out 1
                          have hfz28_2 := blk_frozen BK102.out 2
                          go_wp2
                          go_roundg kj13
                          case measure => have := HK1.out; have := HJ13.out; omega
                          case rel => exact ⟨(wrap64 (x11_1 + 1)), (x102000_1), (x102001_1), (x102002_1), (a0.extract (a1 : Int).toNat ((wrap64 (x11_1 + 1)) : Int).toNat), (by first | rfl | (simp; done) | (simp [*]; done)), H', ⟨by have := HK1.out; have := HJ13.out; omega⟩, ⟨by (with_reducible repeat (first | refine blk_drewN ?_ _ | refine blk_drew ?_ | refine blk_alloc ?_ _)); refine blk_far ?_ NB101_102.out _; (with_reducible repeat (first | refine blk_drewN ?_ _ | refine blk_drew ?_ | refine blk_alloc ?_ _)); exact BK101.out⟩, ⟨by (with_reducible repeat (first | refine blk_drewN ?_ _ | refine blk_drew ?_ | refine blk_alloc ?_ _)); refine blk_put (cs := #[.int .i64 a1, .int .i64 1, .string x103002_1]) ?_ 2 _ rfl; (with_reducible repeat (first | refine blk_drewN ?_ _ | refine blk_drew ?_ | refine blk_alloc ?_ _)); exact BK102.out⟩, ⟨by repeat (first | (with_reducible first | exact HB.out | apply below_alloc | apply pw_below_drewN | apply below_drew1 | refine below_set ?_ GE101.out | refine below_set ?_ GE102.out) | exact HB.out)⟩⟩
                        · rw [if_neg c26] at H
                          exact absurd H (by simp)
                      · rw [if_neg c25] at H
                        exact absurd H (by simp)
                    · rw [if_neg c24] at H
                      exact absurd H (by simp)
                · replace c19 := Bool.eq_false_iff.mpr c19
                  subst c19
                  have H1 : (some (a1, 1, x103002_1, (-1))) = some (r1, r2, r3, r4) := by rw [if_neg (show ¬ (false = true) by decide)] at H; exact H
                  clear H
                  have H := H1
                  clear H1
                  simp only [Option.some.injEq, Prod.mk.injEq] at H
                  obtain ⟨rfl, rfl, rfl, rfl⟩ := H
                  have hnb29 := NB102_101.out
                  have hnc29 := NB101_102.out
                  have hcz30_0 : wc.cell? ⟨gb102, 0, none⟩ = some (.int .i64 a1) := (blk_cell BK102.out 0).trans rfl
                  have hcz30_1 : wc.cell? ⟨gb102, 1, none⟩ = some (.int .i64 1) := (blk_cell BK102.out 1).trans rfl
                  have hcz30_2 : wc.cell? ⟨gb102, 2, none⟩ = some (.string x103002_1) := (blk_cell BK102.out 2).trans rfl
                  have hfz30_0 := blk_frozen BK102.out 0
                  have hfz30_1 := blk_frozen BK102.out 1
                  have hfz30_2 := blk_frozen BK102.out 2
                  have hcz31_0 : wc.cell? ⟨gb101, 0, none⟩ = some (.int .i64 x102000_1) := (blk_cell BK101.out 0).trans rfl
                  have hcz31_1 : wc.cell? ⟨gb101, 1, none⟩ = some (.int .i64 x102001_1) := (blk_cell BK101.out 1).trans rfl
                  have hcz31_2 : wc.cell? ⟨gb101, 2, none⟩ = some (.string x102002_1) := (blk_cell BK101.out 2).trans rfl
                  have hfz31_0 := blk_frozen BK101.out 0
                  have hfz31_1 := blk_frozen BK101.out 1
                  have hfz31_2 := blk_frozen BK101.out 2
                  go_wp2
                  refine bodyPost_ret (results_ct rfl _ _ gb101 104 #[.int .i64 a1, .int .i64 1, .string x103002_1] (0, 0) _ rfl (by (with_reducible repeat (first | refine blk_drewN ?_ _ | refine blk_drew ?_ | refine blk_alloc ?_ _)); refine blk_put (cs := #[.int .i64 a1, .int .i64 1, .string x102002_1]) ?_ 2 _ rfl; (with_reducible repeat (first | refine blk_drewN ?_ _ | refine blk_drew ?_ | refine blk_alloc ?_ _)); refine blk_put (cs := #[.int .i64 a1, .int .i64 x102001_1, .string x102002_1]) ?_ 1 _ rfl; (with_reducible repeat (first | refine blk_drewN ?_ _ | refine blk_drew ?_ | refine blk_alloc ?_ _)); refine blk_put (cs := #[.int .i64 x102000_1, .int .i64 x102001_1, .string x102002_1]) ?_ 0 _ rfl; (with_reducible repeat (first | refine blk_drewN ?_ _ | refine blk_drew ?_ | refine blk_alloc ?_ _)); exact BK101.out) Tryz.underlying104 rfl (by kernel_rfl)) rfl ?_
                  exact ⟨by first | rfl | (simp [errW_none, errW_some] <;> rfl) | (simp [*, errW_none, errW_some] <;> rfl), by repeat (first | (with_reducible first | exact HB.out | apply below_alloc | apply pw_below_drewN | apply below_drew1 | refine below_set ?_ GE101.out | refine below_set ?_ GE102.out) | exact HB.out)⟩
      · replace c9 := Bool.eq_false_iff.mpr c9
        subst c9
        have H1 : ((spoondriftref05_digit.f (bt a0 a1)).bind fun t105 => (if t105 = true then (spoondriftref05_Cut.l1 k a0 a1 a2 a1 a1 2 (⟨#[]⟩ : ByteArray)) else (spoondriftref05_Cut.l2 k a0 a1 a3 0 a1 0 (⟨#[]⟩ : ByteArray)))) = some (r1, r2, r3, r4) := by rw [if_neg (show ¬ (false = true) by decide)] at H; exact H
        clear H
        have H := H1
        clear H1
        replace H := Option.bind_eq_some_iff.mp H
        obtain ⟨t105, A330, H⟩ := H
        replace H : (if t105 = true then (spoondriftref05_Cut.l1 k a0 a1 a2 a1 a1 2 (⟨#[]⟩ : ByteArray)) else (spoondriftref05_Cut.l2 k a0 a1 a3 0 a1 0 (⟨#[]⟩ : ByteArray))) = some (r1, r2, r3, r4) := H
        have A33 := Aside0.mk A330
        clear A330
        by_cases c34 : t105 = true
        · subst c34
          have H1 : (spoondriftref05_Cut.l1 k a0 a1 a2 a1 a1 2 (⟨#[]⟩ : ByteArray)) = some (r1, r2, r3, r4) := by rw [if_pos rfl] at H; exact H
          clear H
          have H := H1
          clear H1
          have H' := Aside0.mk H
          clear H
          go_enter Tryz.func150, Tryz.ntmps150
          go_wp2_with (first | ((with_reducible refine gate_dst (N := 8) rfl ?_); refine box_event ?hg (N := 8) ?hd (cs := #[.int .i64 0, .int .i64 0, .string (⟨#[]⟩ : ByteArray)]) (t := 104) ?hr ?_; (case hd => rfl); (case hg => rfl); (case hr => first | (go_simp; done) | (go_simp; rfl)); intro gb101 hg w35 hbox hb; have n0_ := Aside0.mk (below_step (by repeat (first | (with_reducible first | exact HB.out | apply below_alloc | apply pw_below_drewN | apply below_drew1) | exact HB.out)) hb); have n1_ := Aside0.mk (hbox); have n2_ := Aside0.mk ((by rw [hg]; exact (below_size (by repeat (first | (with_reducible first | exact HB.out | apply below_alloc | apply pw_below_drewN | apply below_drew1) | exact HB.out))) : w.heap.size ≤ gb101)); have n3_ := Aside0.mk ((by rw [hg]; exact (below_size (by repeat (first | (with_reducible first | exact HB.out | apply below_alloc | apply pw_below_drewN | apply below_drew1) | exact HB.out))) : w.heap.size ≤ gb101)); clear HB; have HB := n0_; have BK101 := n1_; have GW101 := n2_; have GE101 := n3_; clear n0_ n1_ n2_ n3_; clear hb hbox hg) | ((with_reducible refine gate_dst (N := 10) rfl ?_); refine box_event ?hg (N := 10) ?hd (cs := #[.int .i64 0, .int .i64 0, .string (⟨#[]⟩ : ByteArray)]) (t := 104) ?hr ?_; (case hd => rfl); (case hg => rfl); (case hr => first | (go_simp; done) | (go_simp; rfl)); intro gb102 hg w36 hbox hb; have n0_ := Aside0.mk (blk_below (g := gb101) (o := .cells #[.int .i64 0, .int .i64 0, .string (⟨#[]⟩ : ByteArray)] 104 (0, 0)) (by (with_reducible repeat (first | refine blk_drewN ?_ _ | refine blk_drew ?_ | refine blk_alloc ?_ _)); exact BK101.out) hb); have n1_ := Aside0.mk (below_step (by repeat (first | (with_reducible first | exact HB.out | apply below_alloc | apply pw_below_drewN | apply below_drew1 | refine below_set ?_ GE101.out) | exact HB.out)) hb); have n2_ := Aside0.mk (hbox); have n3_ := Aside0.mk ((by rw [hg]; exact (below_size (by repeat (first | (with_reducible first | exact HB.out | apply below_alloc | apply pw_below_drewN | apply below_drew1 | refine below_set ?_ GE101.out) | exact HB.out))) : w.heap.size ≤ gb102)); have n4_ := Aside0.mk ((by rw [hg]; exact (below_size (by repeat (first | (with_reducible first | exact HB.out | apply below_alloc | apply pw_below_drewN | apply below_drew1 | refine below_set ?_ GE101.out) | exact HB.out))) : w.heap.size ≤ gb102)); have n5_ := Aside0.mk ((by rw [hg]; exact Nat.ne_of_lt (blk_lt (g := gb101) (o := .cells #[.int .i64 0, .int .i64 0, .string (⟨#[]⟩ : ByteArray)] 104 (0, 0)) (by (with_reducible repeat (first | refine blk_drewN ?_ _ | refine blk_drew ?_ | refine blk_alloc ?_ _)); exact BK101.out)) : gb101 ≠ gb102)); have n6_ := Aside0.mk ((by rw [hg]; exact Nat.ne_of_gt (blk_lt (g := gb101) (o := .cells #[.int .i64 0, .int .i64 0, .string (⟨#[]⟩ : ByteArray)] 104 (0, 0)) (by (with_reducible repeat (first | refine blk_drewN ?_ _ | refine blk_drew ?_ | refine blk_alloc ?_ _)); exact BK101.out)) : gb102 ≠ gb101)); clear BK101; clear HB; have BK101 := n0_; have HB := n1_; have BK102 := n2_; have GW102 := n3_; have GE102 := n4_; have NB101_102 := n5_; have NB102_101 := n6_; clear n0_ n1_ n2_ n3_ n4_ n5_ n6_; clear hb hbox hg; have hnb37 := NB102_101.out; have hnc37 := NB101_102.out; have hcz38_0 : w36.cell? ⟨gb102, 0, none⟩ = some (.int .i64 0) := (blk_cell BK102.out 0).trans rfl; have hcz38_1 : w36.cell? ⟨gb102, 1, none⟩ = some (.int .i64 0) := (blk_cell BK102.out 1).trans rfl; have hcz38_2 : w36.cell? ⟨gb102, 2, none⟩ = some (.string (⟨#[]⟩ : ByteArray)) := (blk_cell BK102.out 2).trans rfl; have hfz38_0 := blk_frozen BK102.out 0; have hfz38_1 := blk_frozen BK102.out 1; have hfz38_2 := blk_frozen BK102.out 2; have p7 : 0 ≤ (a1 : Int) := of_decide_eq_true (by first | (with_reducible assumption) | assumption); have q7 : a1 < (a0.size : Int) := of_decide_eq_true (by first | (with_reducible assumption) | assumption); have hx7 := bt_at a0 a1; replace p7 := eq_true p7; replace q7 := eq_true q7) | ((with_reducible refine gate_callee (f := 171) rfl ?_); refine goesL_ (some 19) rfl rfl Tryz.func171 (by kernel_rfl) rfl #[.int .u8 (bt a0 a1)] rfl (by (try simp only [List.map_toArray, List.map_cons, List.map_nil]); first | done | rfl | (simp only [List.length_drop, List.length_take]; rfl)) ?_; (with_reducible refine (spoondriftref05_letter.calls (bt a0 a1) false _ A8.out).mono ?_); rintro e w' ⟨rfl, ⟨nd, rfl⟩⟩; refine ⟨_, rfl, ?_⟩; have p32 : 0 ≤ (a1 : Int) := of_decide_eq_true (by first | (with_reducible assumption) | assumption); have q32 : a1 < (a0.size : Int) := of_decide_eq_true (by first | (with_reducible assumption) | assumption); have hx32 := bt_at a0 a1; replace p32 := eq_true p32; replace q32 := eq_true q32) | ((with_reducible refine gate_callee (f := 172) rfl ?_); refine goesL_ (some 50) rfl rfl Tryz.func172 (by kernel_rfl) rfl #[.int .u8 (bt a0 a1)] rfl (by (try simp only [List.map_toArray, List.map_cons, List.map_nil]); first | done | rfl | (simp only [List.length_drop, List.length_take]; rfl)) ?_; (with_reducible refine (spoondriftref05_digit.calls (bt a0 a1) true _ A33.out).mono ?_); rintro e w' ⟨rfl, ⟨nd, rfl⟩⟩; refine ⟨_, rfl, ?_⟩))
          (try simp only [Act.put, List.setIfInBounds_toArray, List.set_cons_zero, List.set_cons_succ])
          go_loopg [12] k (fun kq v12 w' => ∃ (x12_1 : Int) (x102000_1 : Int) (x102001_1 : Int) (x102002_1 : ByteArray) (x103002_1 : ByteArray), v12 = .int .i64 x12_1 ∧ Aside0 (spoondriftref05_Cut.l1 kq a0 a1 a2 x12_1 a1 2 x103002_1 = some (r1, r2, r3, r4)) ∧ Aside0 (kq ≤ k) ∧ Aside0 (w'.heap[gb101]? = some (.cells #[.int .i64 x102000_1, .int .i64 x102001_1, .string x102002_1] 104 (0, 0))) ∧ Aside0 (w'.heap[gb102]? = some (.cells #[.int .i64 a1, .int .i64 2, .string x103002_1] 104 (0, 0))) ∧ Aside0 (Below w.heap.size w w'))
          case atStart => exact ⟨(a1), (0), (0), ((⟨#[]⟩ : ByteArray)), ((⟨#[]⟩ : ByteArray)), (by first | rfl | (simp; done) | (simp [*]; done)), H', ⟨Nat.le_refl _⟩, ⟨by (with_reducible repeat (first | refine blk_drewN ?_ _ | refine blk_drew ?_ | refine blk_alloc ?_ _)); refine blk_far ?_ NB101_102.out _; (with_reducible repeat (first | refine blk_drewN ?_ _ | refine blk_drew ?_ | refine blk_alloc ?_ _)); refine blk_far ?_ NB101_102.out _; (with_reducible repeat (first | refine blk_drewN ?_ _ | refine blk_drew ?_ | refine blk_alloc ?_ _)); refine blk_far ?_ NB101_102.out _; (with_reducible repeat (first | refine blk_drewN ?_ _ | refine blk_drew ?_ | refine blk_alloc ?_ _)); refine blk_far ?_ NB101_102.out _; (with_reducible repeat (first | refine blk_drewN ?_ _ | refine blk_drew ?_ | refine blk_alloc ?_ _)); exact BK101.out⟩, ⟨by (with_reducible repeat (first | refine blk_drewN ?_ _ | refine blk_drew ?_ | refine blk_alloc ?_ _)); refine blk_put (cs := #[.int .i64 a1, .int .i64 0, .string (⟨#[]⟩ : ByteArray)]) ?_ 1 _ rfl; (with_reducible repeat (first | refine blk_drewN ?_ _ | refine blk_drew ?_ | refine blk_alloc ?_ _)); refine blk_put (cs := #[.int .i64 a1, .int .i64 0, .string (⟨#[]⟩ : ByteArray)]) ?_ 2 _ rfl; (with_reducible repeat (first | refine blk_drewN ?_ _ | refine blk_drew ?_ | refine blk_alloc ?_ _)); refine blk_put (cs := #[.int .i64 a1, .int .i64 0, .string (⟨#[]⟩ : ByteArray)]) ?_ 1 _ rfl; (with_reducible repeat (first | refine blk_drewN ?_ _ | refine blk_drew ?_ | refine blk_alloc ?_ _)); refine blk_put (cs := #[.int .i64 0, .int .i64 0, .string (⟨#[]⟩ : ByteArray)]) ?_ 0 _ rfl; (with_reducible repeat (first | refine blk_drewN ?_ _ | refine blk_drew ?_ | refine blk_alloc ?_ _)); exact BK102.out⟩, ⟨by repeat (first | (with_reducible first | exact HB.out | apply below_alloc | apply pw_below_drewN | apply below_drew1 | refine below_set ?_ GE101.out | refine below_set ?_ GE102.out) | exact HB.out)⟩⟩
          case round =>
            clear H'
            try clear c1
            try clear p1
            try clear q1
            try clear hx1
            try clear c2
            try clear p2
            try clear c3
            try clear p3
            try clear q3
            try clear hx3
            try clear c5
            try clear c5b0
            try clear c6
            try clear c6b0
            try clear p6
            try clear p7
            try clear q7
            try clear hx7
            try clear c9
            try clear c12
            try clear c15
            try clear c15b0
            try clear c16
            try clear c16b0
            try clear c17
            try clear p17
            try clear q17
            try clear hx17
            try clear c19
            try clear c20
            try clear c20b0
            try clear c20b1
            try clear c21
            try clear c24
            try clear c24b0
            try clear c24b1
            try clear c25
            try clear c25b0
            try clear c25b1
            try clear c26
            try clear c26b0
            try clear c26b1
            try clear c27
            try clear c29
            try clear p32
            try clear q32
            try clear hx32
            try clear c34
            try clear c37
            try clear hcz13_0
            try clear hcz13_1
            try clear hcz13_2
            try clear hcz22_0
            try clear hcz22_1
            try clear hcz22_2
            try clear hcz23_0
            try clear hcz23_1
            try clear hcz23_2
            try clear hcz28_0
            try clear hcz28_1
            try clear hcz28_2
            try clear hcz30_0
            try clear hcz30_1
            try clear hcz30_2
            try clear hcz31_0
            try clear hcz31_1
            try clear hcz31_2
            try clear hcz38_0
            try clear hcz38_1
            try clear hcz38_2
            try clear hfz13_0
            try clear hfz13_1
            try clear hfz13_2
            try clear hfz22_0
            try clear hfz22_1
            try clear hfz22_2
            try clear hfz23_0
            try clear hfz23_1
            try clear hfz23_2
            try clear hfz28_0
            try clear hfz28_1
            try clear hfz28_2
            try clear hfz30_0
            try clear hfz30_1
            try clear hfz30_2
            try clear hfz31_0
            try clear hfz31_1
            try clear hfz31_2
            try clear hfz38_0
            try clear hfz38_1
            try clear hfz38_2
            try clear p1
            try clear p17
            try clear p2
            try clear p32
            try clear p7
            try clear q1
            try clear q17
            try clear q32
            try clear q7
            obtain ⟨x12_1, x102000_1, x102001_1, x102002_1, x103002_1, rfl, HA, HK1, BK101, BK102, HB⟩ := hrel
            cases gk with
            | zero => exact absurd HA.out (by simp [spoondriftref05_Cut.l1])
            | succ k1 =>
              have H := HA.out
              clear HA
              simp only [spoondriftref05_Cut.l1] at H
              have HC39 := Aside0.mk H
              clear H
              go_upto_region 14 with (fail)
              go_cut [62] (fun v62 wc => ∃ (kq : Nat) (x62_38 : Bool), v62 = .bool x62_38 ∧ Aside0 (spoondriftref05_Cut.j3 kq a0 a1 a2 x12_1 x62_38 a1 2 x103002_1 = some (r1, r2, r3, r4)) ∧ Aside0 (kq ≤ k1) ∧ Aside0 (wc.heap[gb101]? = some (.cells #[.int .i64 x102000_1, .int .i64 x102001_1, .string x102002_1] 104 (0, 0))) ∧ Aside0 (wc.heap[gb102]? = some (.cells #[.int .i64 a1, .int .i64 2, .string x103002_1] 104 (0, 0))) ∧ Aside0 (Below w.heap.size w wc))
              case first =>
                have H := HC39.out
                clear HC39
                by_cases c40 : x12_1 < (a0.size : Int)
                · rw [if_pos c40] at H
                  have c40b0 : decide (x12_1 < (a0.size : Int)) = true := decide_eq_true c40
                  clear c40
                  (first | rw [c40b0] | (simp only [i64_w, i32_w]; rw [c40b0]) | skip)
                  by_cases c41 : 0 ≤ x12_1
                  · rw [if_pos c41] at H
                    have c41b0 : decide (0 ≤ x12_1) = true := decide_eq_true c41
                    clear c41
                    replace H := Option.bind_eq_some_iff.mp H
                    obtain ⟨t106, A430, H⟩ := H
                    replace H : (spoondriftref05_Cut.j3 k1 a0 a1 a2 x12_1 t106 a1 2 x103002_1) = some (r1, r2, r3, r4) := H
                    have A43 := Aside0.mk A430
                    clear A430
                    have H' := Aside0.mk H
                    clear H
                    have p42 : 0 ≤ (x12_1 : Int) := of_decide_eq_true (by first | (with_reducible assumption) | assumption)
                    have q42 : x12_1 < (a0.size : Int) := of_decide_eq_true (by first | (with_reducible assumption) | assumption)
                    have hx42 := bt_at a0 x12_1
                    replace p42 := eq_true p42
                    replace q42 := eq_true q42
                    go_wp2_with (first | (go_at_call 172; (with_reducible refine (spoondriftref05_digit.calls (bt a0 x12_1) t106 _ A43.out).mono ?_); rintro e w' ⟨rfl, ⟨nd, rfl⟩⟩))
                    go_meet
                    case rel => exact ⟨_, (t106), (by first | rfl | (simp; done) | (simp [*]; done)), H', ⟨by have := HK1.out; first | omega | exact Nat.le_refl _⟩, ⟨by (with_reducible repeat (first | refine blk_drewN ?_ _ | refine blk_drew ?_ | refine blk_alloc ?_ _)); exact BK101.out⟩, ⟨by (with_reducible repeat (first | refine blk_drewN ?_ _ | refine blk_drew ?_ | refine blk_alloc ?_ _)); exact BK102.out⟩, ⟨by repeat (first | (with_reducible first | exact HB.out | apply below_alloc | apply pw_below_drewN | apply below_drew1 | refine below_set ?_ GE101.out | refine below_set ?_ GE102.out) | exact HB.out)⟩⟩
                  · rw [if_neg c41] at H
                    exact absurd H (by simp)
                · rw [if_neg c40] at H
                  have c40b0 : decide (x12_1 < (a0.size : Int)) = false := decide_eq_false c40
                  clear c40
                  (first | rw [c40b0] | (simp only [i64_w, i32_w]; rw [c40b0]) | skip)
                  have H' := Aside0.mk H
                  clear H
                  go_wp2
                  go_meet
                  case rel => exact ⟨_, (false), (by first | rfl | (simp; done) | (simp [*]; done)), H', ⟨by have := HK1.out; first | omega | exact Nat.le_refl _⟩, ⟨by (with_reducible repeat (first | refine blk_drewN ?_ _ | refine blk_drew ?_ | refine blk_alloc ?_ _)); exact BK101.out⟩, ⟨by (with_reducible repeat (first | refine blk_drewN ?_ _ | refine blk_drew ?_ | refine blk_alloc ?_ _)); exact BK102.out⟩, ⟨by repeat (first | (with_reducible first | exact HB.out | apply below_alloc | apply pw_below_drewN | apply below_drew1 | refine below_set ?_ GE101.out | refine below_set ?_ GE102.out) | exact HB.out)⟩⟩
              case rest =>
                clear HC39
                try clear c1
                try clear p1
                try clear q1
                try clear hx1
                try clear c2
                try clear p2
                try clear c3
                try clear p3
                try clear q3
                try clear hx3
                try clear c4
                try clear p4
                try clear q4
                try clear hx4
                try clear c5
                try clear c5b0
                try clear c6
                try clear c6b0
                try clear p6
                try clear p7
                try clear q7
                try clear hx7
                try clear c9
                try clear c12
                try clear c15
                try clear c15b0
                try clear c16
                try clear c16b0
                try clear c17
                try clear p17
                try clear q17
                try clear hx17
                try clear c19
                try clear c20
                try clear c20b0
                try clear c20b1
                try clear c21
                try clear c24
                try clear c24b0
                try clear c24b1
                try clear c25
                try clear c25b0
                try clear c25b1
                try clear c26
                try clear c26b0
                try clear c26b1
                try clear c27
                try clear c29
                try clear p32
                try clear q32
                try clear hx32
                try clear c34
                try clear c37
                try clear c40
                try clear c40b0
                try clear c41
                try clear c41b0
                try clear p42
                try clear q42
                try clear hx42
                try clear hcz13_0
                try clear hcz13_1
                try clear hcz13_2
                try clear hcz22_0
                try clear hcz22_1
                try clear hcz22_2
                try clear hcz23_0
                try clear hcz23_1
                try clear hcz23_2
                try clear hcz28_0
                try clear hcz28_1
                try clear hcz28_2
                try clear hcz30_0
                try clear hcz30_1
                try clear hcz30_2
                try clear hcz31_0
                try clear hcz31_1
                try clear hcz31_2
                try clear hcz38_0
                try clear hcz38_1
                try clear hcz38_2
                try clear hfz13_0
                try clear hfz13_1
                try clear hfz13_2
                try clear hfz22_0
                try clear hfz22_1
                try clear hfz22_2
                try clear hfz23_0
                try clear hfz23_1
                try clear hfz23_2
                try clear hfz28_0
                try clear hfz28_1
                try clear hfz28_2
                try clear hfz30_0
                try clear hfz30_1
                try clear hfz30_2
                try clear hfz31_0
                try clear hfz31_1
                try clear hfz31_2
                try clear hfz38_0
                try clear hfz38_1
                try clear hfz38_2
                try clear p1
                try clear p17
                try clear p2
                try clear p3
                try clear p32
                try clear p42
                try clear p6
                try clear p7
                try clear q1
                try clear q17
                try clear q3
                try clear q32
                try clear q42
                try clear q7
                obtain ⟨kq, x62_38, rfl, HA, HJ38, BK101, BK102, HB⟩ := hcut
                cases kq with
                | zero => exact absurd HA.out (by simp [spoondriftref05_Cut.j3])
                | succ kj38 =>
                  have H := HA.out
                  clear HA
                  simp only [spoondriftref05_Cut.j3] at H
                  by_cases c44 : x62_38 = true
                  · subst c44
                    have H1 : (if (x103002_1.size : Int) = a2 then (some (a1, 2, x103002_1, x12_1)) else (if x103002_1.toList = ([48] : List UInt8) then (some (a1, 2, x103002_1, x12_1)) else (if 0 ≤ a1 then (if a1 ≤ (wrap64 (x12_1 + 1)) then (if (wrap64 (x12_1 + 1)) ≤ (a0.size : Int) then (spoondriftref05_Cut.l1 kj38 a0 a1 a2 (wrap64 (x12_1 + 1)) a1 2 (a0.extract (a1 : Int).toNat ((wrap64 (x12_1 + 1)) : Int).toNat)) else (none)) else (none)) else (none)))) = some (r1, r2, r3, r4) := by rw [if_pos rfl] at H; exact H
                    clear H
                    have H := H1
                    clear H1
                    by_cases c45 : (x103002_1.size : Int) = a2
                    · rw [if_pos c45] at H
                      have c45b0 : ((x103002_1.size : Int) == a2) = true := beq_iff_eq.mpr c45
                      have c45b1 : ((x103002_1.size : Int) != a2) = false := bne_eq_false_iff_eq.mpr c45
                      clear c45
                      simp only [Option.some.injEq, Prod.mk.injEq] at H
                      obtain ⟨rfl, rfl, rfl, rfl⟩ := H
                      have hnb46 := NB102_101.out
                      have hnc46 := NB101_102.out
                      have hcz47_0 : wc.cell? ⟨gb102, 0, none⟩ = some (.int .i64 a1) := (blk_cell BK102.out 0).trans rfl
                      have hcz47_1 : wc.cell? ⟨gb102, 1, none⟩ = some (.int .i64 2) := (blk_cell BK102.out 1).trans rfl
                      have hcz47_2 : wc.cell? ⟨gb102, 2, none⟩ = some (.string x103002_1) := (blk_cell BK102.out 2).trans rfl
                      have hfz47_0 := blk_frozen BK102.out 0
                      have hfz47_1 := blk_frozen BK102.out 1
                      have hfz47_2 := blk_frozen BK102.out 2
                      have hcz48_0 : wc.cell? ⟨gb101, 0, none⟩ = some (.int .i64 x102000_1) := (blk_cell BK101.out 0).trans rfl
                      have hcz48_1 : wc.cell? ⟨gb101, 1, none⟩ = some (.int .i64 x102001_1) := (blk_cell BK101.out 1).trans rfl
                      have hcz48_2 : wc.cell? ⟨gb101, 2, none⟩ = some (.string x102002_1) := (blk_cell BK101.out 2).trans rfl
                      have hfz48_0 := blk_frozen BK101.out 0
                      have hfz48_1 := blk_frozen BK101.out 1
                      have hfz48_2 := blk_frozen BK101.out 2
                      go_wp2
                      refine bodyPost_ret (results_ct rfl _ _ gb101 104 #[.int .i64 a1, .int .i64 2, .string x103002_1] (0, 0) _ rfl (by (with_reducible repeat (first | refine blk_drewN ?_ _ | refine blk_drew ?_ | refine blk_alloc ?_ _)); refine blk_put (cs := #[.int .i64 a1, .int .i64 2, .string x102002_1]) ?_ 2 _ rfl; (with_reducible repeat (first | refine blk_drewN ?_ _ | refine blk_drew ?_ | refine blk_alloc ?_ _)); refine blk_put (cs := #[.int .i64 a1, .int .i64 x102001_1, .string x102002_1]) ?_ 1 _ rfl; (with_reducible repeat (first | refine blk_drewN ?_ _ | refine blk_drew ?_ | refine blk_alloc ?_ _)); refine blk_put (cs := #[.int .i64 x102000_1, .int .i64 x102001_1, .string x102002_1]) ?_ 0 _ rfl; (with_reducible repeat (first | refine blk_drewN ?_ _ | refine blk_drew ?_ | refine blk_alloc ?_ _)); exact BK101.out) Tryz.underlying104 rfl (by kernel_rfl)) rfl ?_
                      exact ⟨by first | rfl | (simp [errW_none, errW_some] <;> rfl) | (simp [*, errW_none, errW_some] <;> rfl), by repeat (first | (with_reducible first | exact HB.out | apply below_alloc | apply pw_below_drewN | apply below_drew1 | refine below_set ?_ GE101.out | refine below_set ?_ GE102.out) | exact HB.out)⟩
                    · rw [if_neg c45] at H
                      have c45b0 : ((x103002_1.size : Int) == a2) = false := beq_eq_false_iff_ne.mpr c45
                      have c45b1 : ((x103002_1.size : Int) != a2) = true := bne_iff_ne.mpr c45
                      by_cases c49 : x103002_1.toList = ([48] : List UInt8)
                      · rw [if_pos c49] at H
                        have c49b0 : (x103002_1.toList == ([48] : List UInt8)) = true := beq_iff_eq.mpr c49
                        have c49b1 : (x103002_1.toList != ([48] : List UInt8)) = false := bne_eq_false_iff_eq.mpr c49
                        clear c49
                        simp only [Option.some.injEq, Prod.mk.injEq] at H
                        obtain ⟨rfl, rfl, rfl, rfl⟩ := H
                        have hnb50 := NB102_101.out
                        have hnc50 := NB101_102.out
                        have hcz51_0 : wc.cell? ⟨gb102, 0, none⟩ = some (.int .i64 a1) := (blk_cell BK102.out 0).trans rfl
                        have hcz51_1 : wc.cell? ⟨gb102, 1, none⟩ = some (.int .i64 2) := (blk_cell BK102.out 1).trans rfl
                        have hcz51_2 : wc.cell? ⟨gb102, 2, none⟩ = some (.string x103002_1) := (blk_cell BK102.out 2).trans rfl
                        have hfz51_0 := blk_frozen BK102.out 0
                        have hfz51_1 := blk_frozen BK102.out 1
                        have hfz51_2 := blk_frozen BK102.out 2
                        have hcz52_0 : wc.cell? ⟨gb101, 0, none⟩ = some (.int .i64 x102000_1) := (blk_cell BK101.out 0).trans rfl
                        have hcz52_1 : wc.cell? ⟨gb101, 1, none⟩ = some (.int .i64 x102001_1) := (blk_cell BK101.out 1).trans rfl
                        have hcz52_2 : wc.cell? ⟨gb101, 2, none⟩ = some (.string x102002_1) := (blk_cell BK101.out 2).trans rfl
                        have hfz52_0 := blk_frozen BK101.out 0
                        have hfz52_1 := blk_frozen BK101.out 1
                        have hfz52_2 := blk_frozen BK101.out 2
                        go_wp2
                        refine bodyPost_ret (results_ct rfl _ _ gb101 104 #[.int .i64 a1, .int .i64 2, .string x103002_1] (0, 0) _ rfl (by (with_reducible repeat (first | refine blk_drewN ?_ _ | refine blk_drew ?_ | refine blk_alloc ?_ _)); refine blk_put (cs := #[.int .i64 a1, .int .i64 2, .string x102002_1]) ?_ 2 _ rfl; (with_reducible repeat (first | refine blk_drewN ?_ _ | refine blk_drew ?_ | refine blk_alloc ?_ _)); refine blk_put (cs := #[.int .i64 a1, .int .i64 x102001_1, .string x102002_1]) ?_ 1 _ rfl; (with_reducible repeat (first | refine blk_drewN ?_ _ | refine blk_drew ?_ | refine blk_alloc ?_ _)); refine blk_put (cs := #[.int .i64 x102000_1, .int .i64 x102001_1, .string x102002_1]) ?_ 0 _ rfl; (with_reducible repeat (first | refine blk_drewN ?_ _ | refine blk_drew ?_ | refine blk_alloc ?_ _)); exact BK101.out) Tryz.underlying104 rfl (by kernel_rfl)) rfl ?_
                        exact ⟨by first | rfl | (simp [errW_none, errW_some] <;> rfl) | (simp [*, errW_none, errW_some] <;> rfl), by repeat (first | (with_reducible first | exact HB.out | apply below_alloc | apply pw_below_drewN | apply below_drew1 | refine below_set ?_ GE101.out | refine below_set ?_ GE102.out) | exact HB.out)⟩
                      · rw [if_neg c49] at H
                        have c49b0 : (x103002_1.toList == ([48] : List UInt8)) = false := beq_eq_false_iff_ne.mpr c49
                        have c49b1 : (x103002_1.toList != ([48] : List UInt8)) = true := bne_iff_ne.mpr c49
                        by_cases c53 : 0 ≤ a1
                        · rw [if_pos c53] at H
                          have c53b0 := eq_true c53
                          have c53b1 : decide (0 ≤ a1) = true := decide_eq_true c53
                          clear c53
                          by_cases c54 : a1 ≤ (wrap64 (x12_1 + 1))
                          · rw [if_pos c54] at H
                            have c54b0 := eq_true c54
                            have c54b1 : decide (a1 ≤ (wrap64 (x12_1 + 1))) = true := decide_eq_true c54
                            by_cases c55 : (wrap64 (x12_1 + 1)) ≤ (a0.size : Int)
                            · rw [if_pos c55] at H
                              have c55b0 := eq_true c55
                              have c55b1 : decide ((wrap64 (x12_1 + 1)) ≤ (a0.size : Int)) = true := decide_eq_true c55
                              have H' := Aside0.mk H
                              clear H
                              have hnb56 := NB102_101.out
                              have hnc56 := NB101_102.out
                              have hcz57_0 : wc.cell? ⟨gb102, 0, none⟩ = some (.int .i64 a1) := (blk_cell BK102.out 0).trans rfl
                              have hcz57_1 : wc.cell? ⟨gb102, 1, none⟩ = some (.int .i64 2) := (blk_cell BK102.out 1).trans rfl
                              have hcz57_2 : wc.cell? ⟨gb102, 2, none⟩ = some (.string x103002_1) := (blk_cell BK102.out 2).trans rfl
                              have hfz57_0 := blk_frozen BK102.out 0
                              have hfz57_1 := blk_frozen BK102.out 1
                              have hfz57_2 := blk_frozen BK102.out 2
                              go_wp2
                              go_roundg kj38
                              case measure => have := HK1.out; have := HJ38.out; omega
                              case rel => exact ⟨(wrap64 (x12_1 + 1)), (x102000_1), (x102001_1), (x102002_1), (a0.extract (a1 : Int).toNat ((wrap64 (x12_1 + 1)) : Int).toNat), (by first | rfl | (simp; done) | (simp [*]; done)), H', ⟨by have := HK1.out; have := HJ38.out; omega⟩, ⟨by (with_reducible repeat (first | refine blk_drewN ?_ _ | refine blk_drew ?_ | refine blk_alloc ?_ _)); refine blk_far ?_ NB101_102.out _; (with_reducible repeat (first | refine blk_drewN ?_ _ | refine blk_drew ?_ | refine blk_alloc ?_ _)); exact BK101.out⟩, ⟨by (with_reducible repeat (first | refine blk_drewN ?_ _ | refine blk_drew ?_ | refine blk_alloc ?_ _)); refine blk_put (cs := #[.int .i64 a1, .int .i64 2, .string x103002_1]) ?_ 2 _ rfl; (with_reducible repeat (first | refine blk_drewN ?_ _ | refine blk_drew ?_ | refine blk_alloc ?_ _)); exact BK102.out⟩, ⟨by repeat (first | (with_reducible first | exact HB.out | apply below_alloc | apply pw_below_drewN | apply below_drew1 | refine below_set ?_ GE101.out | refine below_set ?_ GE102.out) | exact HB.out)⟩⟩
                            · rw [if_neg c55] at H
                              exact absurd H (by simp)
                          · rw [if_neg c54] at H
                            exact absurd H (by simp)
                        · rw [if_neg c53] at H
                          exact absurd H (by simp)
                  · replace c44 := Bool.eq_false_iff.mpr c44
                    subst c44
                    have H1 : (some (a1, 2, x103002_1, (-1))) = some (r1, r2, r3, r4) := by rw [if_neg (show ¬ (false = true) by decide)] at H; exact H
                    clear H
                    have H := H1
                    clear H1
                    simp only [Option.some.injEq, Prod.mk.injEq] at H
                    obtain ⟨rfl, rfl, rfl, rfl⟩ := H
                    have hnb58 := NB102_101.out
                    have hnc58 := NB101_102.out
                    have hcz59_0 : wc.cell? ⟨gb102, 0, none⟩ = some (.int .i64 a1) := (blk_cell BK102.out 0).trans rfl
                    have hcz59_1 : wc.cell? ⟨gb102, 1, none⟩ = some (.int .i64 2) := (blk_cell BK102.out 1).trans rfl
                    have hcz59_2 : wc.cell? ⟨gb102, 2, none⟩ = some (.string x103002_1) := (blk_cell BK102.out 2).trans rfl
                    have hfz59_0 := blk_frozen BK102.out 0
                    have hfz59_1 := blk_frozen BK102.out 1
                    have hfz59_2 := blk_frozen BK102.out 2
                    have hcz60_0 : wc.cell? ⟨gb101, 0, none⟩ = some (.int .i64 x102000_1) := (blk_cell BK101.out 0).trans rfl
                    have hcz60_1 : wc.cell? ⟨gb101, 1, none⟩ = some (.int .i64 x102001_1) := (blk_cell BK101.out 1).trans rfl
                    have hcz60_2 : wc.cell? ⟨gb101, 2, none⟩ = some (.string x102002_1) := (blk_cell BK101.out 2).trans rfl
                    have hfz60_0 := blk_frozen BK101.out 0
                    have hfz60_1 := blk_frozen BK101.out 1
                    have hfz60_2 := blk_frozen BK101.out 2
                    go_wp2
                    refine bodyPost_ret (results_ct rfl _ _ gb101 104 #[.int .i64 a1, .int .i64 2, .string x103002_1] (0, 0) _ rfl (by (with_reducible repeat (first | refine blk_drewN ?_ _ | refine blk_drew ?_ | refine blk_alloc ?_ _)); refine blk_put (cs := #[.int .i64 a1, .int .i64 2, .string x102002_1]) ?_ 2 _ rfl; (with_reducible repeat (first | refine blk_drewN ?_ _ | refine blk_drew ?_ | refine blk_alloc ?_ _)); refine blk_put (cs := #[.int .i64 a1, .int .i64 x102001_1, .string x102002_1]) ?_ 1 _ rfl; (with_reducible repeat (first | refine blk_drewN ?_ _ | refine blk_drew ?_ | refine blk_alloc ?_ _)); refine blk_put (cs := #[.int .i64 x102000_1, .int .i64 x102001_1, .string x102002_1]) ?_ 0 _ rfl; (with_reducible repeat (first | refine blk_drewN ?_ _ | refine blk_drew ?_ | refine blk_alloc ?_ _)); exact BK101.out) Tryz.underlying104 rfl (by kernel_rfl)) rfl ?_
                    exact ⟨by first | rfl | (simp [errW_none, errW_some] <;> rfl) | (simp [*, errW_none, errW_some] <;> rfl), by repeat (first | (with_reducible first | exact HB.out | apply below_alloc | apply pw_below_drewN | apply below_drew1 | refine below_set ?_ GE101.out | refine below_set ?_ GE102.out) | exact HB.out)⟩
        · replace c34 := Bool.eq_false_iff.mpr c34
          subst c34
          have H1 : (spoondriftref05_Cut.l2 k a0 a1 a3 0 a1 0 (⟨#[]⟩ : ByteArray)) = some (r1, r2, r3, r4) := by rw [if_neg (show ¬ (false = true) by decide)] at H; exact H
          clear H
          have H := H1
          clear H1
          have H' := Aside0.mk H
          clear H
          go_enter Tryz.func150, Tryz.ntmps150
          go_wp2_with (first | ((with_reducible refine gate_dst (N := 8) rfl ?_); refine box_event ?hg (N := 8) ?hd (cs := #[.int .i64 0, .int .i64 0, .string (⟨#[]⟩ : ByteArray)]) (t := 104) ?hr ?_; (case hd => rfl); (case hg => rfl); (case hr => first | (go_simp; done) | (go_simp; rfl)); intro gb101 hg w61 hbox hb; have n0_ := Aside0.mk (below_step (by repeat (first | (with_reducible first | exact HB.out | apply below_alloc | apply pw_below_drewN | apply below_drew1) | exact HB.out)) hb); have n1_ := Aside0.mk (hbox); have n2_ := Aside0.mk ((by rw [hg]; exact (below_size (by repeat (first | (with_reducible first | exact HB.out | apply below_alloc | apply pw_below_drewN | apply below_drew1) | exact HB.out))) : w.heap.size ≤ gb101)); have n3_ := Aside0.mk ((by rw [hg]; exact (below_size (by repeat (first | (with_reducible first | exact HB.out | apply below_alloc | apply pw_below_drewN | apply below_drew1) | exact HB.out))) : w.heap.size ≤ gb101)); clear HB; have HB := n0_; have BK101 := n1_; have GW101 := n2_; have GE101 := n3_; clear n0_ n1_ n2_ n3_; clear hb hbox hg) | ((with_reducible refine gate_dst (N := 10) rfl ?_); refine box_event ?hg (N := 10) ?hd (cs := #[.int .i64 0, .int .i64 0, .string (⟨#[]⟩ : ByteArray)]) (t := 104) ?hr ?_; (case hd => rfl); (case hg => rfl); (case hr => first | (go_simp; done) | (go_simp; rfl)); intro gb102 hg w62 hbox hb; have n0_ := Aside0.mk (blk_below (g := gb101) (o := .cells #[.int .i64 0, .int .i64 0, .string (⟨#[]⟩ : ByteArray)] 104 (0, 0)) (by (with_reducible repeat (first | refine blk_drewN ?_ _ | refine blk_drew ?_ | refine blk_alloc ?_ _)); exact BK101.out) hb); have n1_ := Aside0.mk (below_step (by repeat (first | (with_reducible first | exact HB.out | apply below_alloc | apply pw_below_drewN | apply below_drew1 | refine below_set ?_ GE101.out) | exact HB.out)) hb); have n2_ := Aside0.mk (hbox); have n3_ := Aside0.mk ((by rw [hg]; exact (below_size (by repeat (first | (with_reducible first | exact HB.out | apply below_alloc | apply pw_below_drewN | apply below_drew1 | refine below_set ?_ GE101.out) | exact HB.out))) : w.heap.size ≤ gb102)); have n4_ := Aside0.mk ((by rw [hg]; exact (below_size (by repeat (first | (with_reducible first | exact HB.out | apply below_alloc | apply pw_below_drewN | apply below_drew1 | refine below_set ?_ GE101.out) | exact HB.out))) : w.heap.size ≤ gb102)); have n5_ := Aside0.mk ((by rw [hg]; exact Nat.ne_of_lt (blk_lt (g := gb101) (o := .cells #[.int .i64 0, .int .i64 0, .string (⟨#[]⟩ : ByteArray)] 104 (0, 0)) (by (with_reducible repeat (first | refine blk_drewN ?_ _ | refine blk_drew ?_ | refine blk_alloc ?_ _)); exact BK101.out)) : gb101 ≠ gb102)); have n6_ := Aside0.mk ((by rw [hg]; exact Nat.ne_of_gt (blk_lt (g := gb101) (o := .cells #[.int .i64 0, .int .i64 0, .string (⟨#[]⟩ : ByteArray)] 104 (0, 0)) (by (with_reducible repeat (first | refine blk_drewN ?_ _ | refine blk_drew ?_ | refine blk_alloc ?_ _)); exact BK101.out)) : gb102 ≠ gb101)); clear BK101; clear HB; have BK101 := n0_; have HB := n1_; have BK102 := n2_; have GW102 := n3_; have GE102 := n4_; have NB101_102 := n5_; have NB102_101 := n6_; clear n0_ n1_ n2_ n3_ n4_ n5_ n6_; clear hb hbox hg; have hnb63 := NB102_101.out; have hnc63 := NB101_102.out; have hcz64_0 : w62.cell? ⟨gb102, 0, none⟩ = some (.int .i64 0) := (blk_cell BK102.out 0).trans rfl; have hcz64_1 : w62.cell? ⟨gb102, 1, none⟩ = some (.int .i64 0) := (blk_cell BK102.out 1).trans rfl; have hcz64_2 : w62.cell? ⟨gb102, 2, none⟩ = some (.string (⟨#[]⟩ : ByteArray)) := (blk_cell BK102.out 2).trans rfl; have hfz64_0 := blk_frozen BK102.out 0; have hfz64_1 := blk_frozen BK102.out 1; have hfz64_2 := blk_frozen BK102.out 2; have p7 : 0 ≤ (a1 : Int) := of_decide_eq_true (by first | (with_reducible assumption) | assumption); have q7 : a1 < (a0.size : Int) := of_decide_eq_true (by first | (with_reducible assumption) | assumption); have hx7 := bt_at a0 a1; replace p7 := eq_true p7; replace q7 := eq_true q7) | ((with_reducible refine gate_callee (f := 171) rfl ?_); refine goesL_ (some 19) rfl rfl Tryz.func171 (by kernel_rfl) rfl #[.int .u8 (bt a0 a1)] rfl (by (try simp only [List.map_toArray, List.map_cons, List.map_nil]); first | done | rfl | (simp only [List.length_drop, List.length_take]; rfl)) ?_; (with_reducible refine (spoondriftref05_letter.calls (bt a0 a1) false _ A8.out).mono ?_); rintro e w' ⟨rfl, ⟨nd, rfl⟩⟩; refine ⟨_, rfl, ?_⟩; have p32 : 0 ≤ (a1 : Int) := of_decide_eq_true (by first | (with_reducible assumption) | assumption); have q32 : a1 < (a0.size : Int) := of_decide_eq_true (by first | (with_reducible assumption) | assumption); have hx32 := bt_at a0 a1; replace p32 := eq_true p32; replace q32 := eq_true q32) | ((with_reducible refine gate_callee (f := 172) rfl ?_); refine goesL_ (some 50) rfl rfl Tryz.func172 (by kernel_rfl) rfl #[.int .u8 (bt a0 a1)] rfl (by (try simp only [List.map_toArray, List.map_cons, List.map_nil]); first | done | rfl | (simp only [List.length_drop, List.length_take]; rfl)) ?_; (with_reducible refine (spoondriftref05_digit.calls (bt a0 a1) false _ A33.out).mono ?_); rintro e w' ⟨rfl, ⟨nd, rfl⟩⟩; refine ⟨_, rfl, ?_⟩))
          (try simp only [Act.put, List.setIfInBounds_toArray, List.set_cons_zero, List.set_cons_succ])
          go_loopg [13] k (fun kq v13 w' => ∃ (x13_1 : Int) (x102000_1 : Int) (x102001_1 : Int) (x102002_1 : ByteArray) (x103001_1 : Int) (x103002_1 : ByteArray), v13 = .int .i64 x13_1 ∧ Aside0 (spoondriftref05_Cut.l2 kq a0 a1 a3 x13_1 a1 x103001_1 x103002_1 = some (r1, r2, r3, r4)) ∧ Aside0 (kq ≤ k) ∧ Aside0 (w'.heap[gb101]? = some (.cells #[.int .i64 x102000_1, .int .i64 x102001_1, .string x102002_1] 104 (0, 0))) ∧ Aside0 (w'.heap[gb102]? = some (.cells #[.int .i64 a1, .int .i64 x103001_1, .string x103002_1] 104 (0, 0))) ∧ Aside0 (Below w.heap.size w w'))
          case atStart => exact ⟨(0), (0), (0), ((⟨#[]⟩ : ByteArray)), (0), ((⟨#[]⟩ : ByteArray)), (by first | rfl | (simp; done) | (simp [*]; done)), H', ⟨Nat.le_refl _⟩, ⟨by (with_reducible repeat (first | refine blk_drewN ?_ _ | refine blk_drew ?_ | refine blk_alloc ?_ _)); refine blk_far ?_ NB101_102.out _; (with_reducible repeat (first | refine blk_drewN ?_ _ | refine blk_drew ?_ | refine blk_alloc ?_ _)); refine blk_far ?_ NB101_102.out _; (with_reducible repeat (first | refine blk_drewN ?_ _ | refine blk_drew ?_ | refine blk_alloc ?_ _)); refine blk_far ?_ NB101_102.out _; (with_reducible repeat (first | refine blk_drewN ?_ _ | refine blk_drew ?_ | refine blk_alloc ?_ _)); exact BK101.out⟩, ⟨by (with_reducible repeat (first | refine blk_drewN ?_ _ | refine blk_drew ?_ | refine blk_alloc ?_ _)); refine blk_put (cs := #[.int .i64 a1, .int .i64 0, .string (⟨#[]⟩ : ByteArray)]) ?_ 2 _ rfl; (with_reducible repeat (first | refine blk_drewN ?_ _ | refine blk_drew ?_ | refine blk_alloc ?_ _)); refine blk_put (cs := #[.int .i64 a1, .int .i64 0, .string (⟨#[]⟩ : ByteArray)]) ?_ 1 _ rfl; (with_reducible repeat (first | refine blk_drewN ?_ _ | refine blk_drew ?_ | refine blk_alloc ?_ _)); refine blk_put (cs := #[.int .i64 0, .int .i64 0, .string (⟨#[]⟩ : ByteArray)]) ?_ 0 _ rfl; (with_reducible repeat (first | refine blk_drewN ?_ _ | refine blk_drew ?_ | refine blk_alloc ?_ _)); exact BK102.out⟩, ⟨by repeat (first | (with_reducible first | exact HB.out | apply below_alloc | apply pw_below_drewN | apply below_drew1 | refine below_set ?_ GE101.out | refine below_set ?_ GE102.out) | exact HB.out)⟩⟩
          case round =>
            clear H'
            try clear c1
            try clear p1
            try clear q1
            try clear hx1
            try clear c2
            try clear p2
            try clear c3
            try clear p3
            try clear q3
            try clear hx3
            try clear c4
            try clear p4
            try clear q4
            try clear hx4
            try clear c5
            try clear c5b0
            try clear c6
            try clear c6b0
            try clear p6
            try clear p7
            try clear q7
            try clear hx7
            try clear c9
            try clear c12
            try clear c15
            try clear c15b0
            try clear c16
            try clear c16b0
            try clear c17
            try clear p17
            try clear q17
            try clear hx17
            try clear c19
            try clear c20
            try clear c20b0
            try clear c20b1
            try clear c21
            try clear c24
            try clear c24b0
            try clear c24b1
            try clear c25
            try clear c25b0
            try clear c25b1
            try clear c26
            try clear c26b0
            try clear c26b1
            try clear c27
            try clear c29
            try clear p32
            try clear q32
            try clear hx32
            try clear c34
            try clear c37
            try clear c40
            try clear c40b0
            try clear c41
            try clear c41b0
            try clear p42
            try clear q42
            try clear hx42
            try clear c44
            try clear c45
            try clear c45b0
            try clear c45b1
            try clear c46
            try clear c49
            try clear c49b0
            try clear c49b1
            try clear c50
            try clear c53
            try clear c53b0
            try clear c53b1
            try clear c54
            try clear c54b0
            try clear c54b1
            try clear c55
            try clear c55b0
            try clear c55b1
            try clear c56
            try clear c58
            try clear c63
            try clear p64
            try clear hcz13_0
            try clear hcz13_1
            try clear hcz13_2
            try clear hcz22_0
            try clear hcz22_1
            try clear hcz22_2
            try clear hcz23_0
            try clear hcz23_1
            try clear hcz23_2
            try clear hcz28_0
            try clear hcz28_1
            try clear hcz28_2
            try clear hcz30_0
            try clear hcz30_1
            try clear hcz30_2
            try clear hcz31_0
            try clear hcz31_1
            try clear hcz31_2
            try clear hcz38_0
            try clear hcz38_1
            try clear hcz38_2
            try clear hcz47_0
            try clear hcz47_1
            try clear hcz47_2
            try clear hcz48_0
            try clear hcz48_1
            try clear hcz48_2
            try clear hcz51_0
            try clear hcz51_1
            try clear hcz51_2
            try clear hcz52_0
            try clear hcz52_1
            try clear hcz52_2
            try clear hcz57_0
            try clear hcz57_1
            try clear hcz57_2
            try clear hcz59_0
            try clear hcz59_1
            try clear hcz59_2
            try clear hcz60_0
            try clear hcz60_1
            try clear hcz60_2
            try clear hcz64_0
            try clear hcz64_1
            try clear hcz64_2
            try clear hfz13_0
            try clear hfz13_1
            try clear hfz13_2
            try clear hfz22_0
            try clear hfz22_1
            try clear hfz22_2
            try clear hfz23_0
            try clear hfz23_1
            try clear hfz23_2
            try clear hfz28_0
            try clear hfz28_1
            try clear hfz28_2
            try clear hfz30_0
            try clear hfz30_1
            try clear hfz30_2
            try clear hfz31_0
            try clear hfz31_1
            try clear hfz31_2
            try clear hfz38_0
            try clear hfz38_1
            try clear hfz38_2
            try clear hfz47_0
            try clear hfz47_1
            try clear hfz47_2
            try clear hfz48_0
            try clear hfz48_1
            try clear hfz48_2
            try clear hfz51_0
            try clear hfz51_1
            try clear hfz51_2
            try clear hfz52_0
            try clear hfz52_1
            try clear hfz52_2
            try clear hfz57_0
            try clear hfz57_1
            try clear hfz57_2
            try clear hfz59_0
            try clear hfz59_1
            try clear hfz59_2
            try clear hfz60_0
            try clear hfz60_1
            try clear hfz60_2
            try clear hfz64_0
            try clear hfz64_1
            try clear hfz64_2
            try clear p1
            try clear p17
            try clear p2
            try clear p3
            try clear p32
            try clear p4
            try clear p42
            try clear p6
            try clear p7
            try clear q1
            try clear q17
            try clear q3
            try clear q32
            try clear q4
            try clear q42
            try clear q7
            obtain ⟨x13_1, x102000_1, x102001_1, x102002_1, x103001_1, x103002_1, rfl, HA, HK1, BK101, BK102, HB⟩ := hrel
            cases gk with
            | zero => exact absurd HA.out (by simp [spoondriftref05_Cut.l2])
            | succ k1 =>
              have H := HA.out
              clear HA
              simp only [spoondriftref05_Cut.l2] at H
              by_cases c65 : x13_1 < (a3.size : Int)
              · rw [if_pos c65] at H
                have c65b0 : decide (x13_1 < (a3.size : Int)) = true := decide_eq_true c65
                clear c65
                by_cases c66 : 0 ≤ x13_1
                · rw [if_pos c66] at H
                  have c66b0 : decide (0 ≤ x13_1) = true := decide_eq_true c66
                  clear c66
                  by_cases c68 : 0 ≤ a1
                  · rw [if_pos c68] at H
                    have c68b0 : decide (0 ≤ a1) = true := decide_eq_true c68
                    clear c68
                    by_cases c69 : a1 < (a0.size : Int)
                    · rw [if_pos c69] at H
                      have c69b0 : decide (a1 < (a0.size : Int)) = true := decide_eq_true c69
                      clear c69
                      by_cases c71 : (bt a3 x13_1) = (bt a0 a1)
                      · rw [if_pos c71] at H
                        have c71b0 : ((bt a3 x13_1) == (bt a0 a1)) = true := beq_iff_eq.mpr c71
                        have c71b1 : ((bt a3 x13_1) != (bt a0 a1)) = false := bne_eq_false_iff_eq.mpr c71
                        clear c71
                        have c73b0 := eq_true (of_decide_eq_true (by first | (with_reducible assumption) | assumption) : 0 ≤ a1)
                        by_cases c74 : a1 ≤ (wrap64 (a1 + 1))
                        · rw [if_pos c74] at H
                          have c74b0 := eq_true c74
                          have c74b1 : decide (a1 ≤ (wrap64 (a1 + 1))) = true := decide_eq_true c74
                          by_cases c75 : (wrap64 (a1 + 1)) ≤ (a0.size : Int)
                          · rw [if_pos c75] at H
                            have c75b0 := eq_true c75
                            have c75b1 : decide ((wrap64 (a1 + 1)) ≤ (a0.size : Int)) = true := decide_eq_true c75
                            simp only [Option.some.injEq, Prod.mk.injEq] at H
                            obtain ⟨rfl, rfl, rfl, rfl⟩ := H
                            try go_wp2
                            have n0_ := Aside0.mk (blk_drew BK101.out)
                            have n1_ := Aside0.mk (blk_drew BK102.out)
                            have n2_ := Aside0.mk (below_drew1 HB.out)
                            clear BK101
                            clear BK102
                            clear HB
                            have BK101 := n0_
                            have BK102 := n1_
                            have HB := n2_
                            clear n0_ n1_ n2_
                            have p67 : 0 ≤ (x13_1 : Int) := of_decide_eq_true (by first | (with_reducible assumption) | assumption)
                            have q67 : x13_1 < (a3.size : Int) := of_decide_eq_true (by first | (with_reducible assumption) | assumption)
                            have hx67 := bt_at a3 x13_1
                            replace p67 := eq_true p67
                            replace q67 := eq_true q67
                            have p70 : 0 ≤ (a1 : Int) := of_decide_eq_true (by first | (with_reducible assumption) | assumption)
                            have q70 : a1 < (a0.size : Int) := of_decide_eq_true (by first | (with_reducible assumption) | assumption)
                            have hx70 := bt_at a0 a1
                            replace p70 := eq_true p70
                            replace q70 := eq_true q70
                            refine start_ (n := 7) (S := fun w' => True) (ds := []) #[false, false, false, false, false, false, false] (by kernel_rfl) rfl rfl trivial (fun hHeld => ?_)
                            generalize wr.drew = w76 at BK101 BK102 HB hHeld ⊢
                            refine pure_ (i := 0) (N := some 90) (v := ?_) (a' := ?_) #[true, false, false, false, false, false, false] rfl rfl (by kernel_rfl) (fun _ _ _ h => h) (Or.inl ⟨by rfl, ?_⟩) ?_ ?_
                            rotate_left
                            · intro w'
                              go_simp
                              with_reducible rfl
                            rotate_left
                            · simp only [Act.put, List.setIfInBounds_toArray, List.set_cons_zero, List.set_cons_succ, i64_w, i32_w]
                              rfl
                            refine pure_ (i := 1) (N := some 91) (v := ?_) (a' := ?_) #[true, true, false, false, false, false, false] rfl rfl (by kernel_rfl) (fun _ _ _ h => h) (Or.inl ⟨by rfl, ?_⟩) ?_ ?_
                            rotate_left
                            · intro w'
                              go_simp
                              with_reducible rfl
                            rotate_left
                            · simp only [Act.put, List.setIfInBounds_toArray, List.set_cons_zero, List.set_cons_succ, i64_w, i32_w]
                              rfl
                            refine pure_ (i := 3) (N := some 93) (v := ?_) (a' := ?_) #[true, true, false, true, false, false, false] rfl rfl (by kernel_rfl) (fun _ _ _ h => h) (Or.inl ⟨by rfl, ?_⟩) ?_ ?_
                            rotate_left
                            · intro w'
                              go_simp
                              with_reducible rfl
                            rotate_left
                            · simp only [Act.put, List.setIfInBounds_toArray, List.set_cons_zero, List.set_cons_succ, i64_w, i32_w]
                              rfl
                            refine pure_ (i := 4) (N := some 94) (v := ?_) (a' := ?_) #[true, true, false, true, true, false, false] rfl rfl (by kernel_rfl) (fun _ _ _ h => h) (Or.inl ⟨by rfl, ?_⟩) ?_ ?_
                            rotate_left
                            · intro w'
                              go_simp
                              with_reducible rfl
                            rotate_left
                            · simp only [Act.put, List.setIfInBounds_toArray, List.set_cons_zero, List.set_cons_succ, i64_w, i32_w]
                              rfl
                            refine take_ (i := 2) (N := some 92) (v := ?_) (a' := ?_) #[true, true, true, true, true, false, false] rfl rfl (by kernel_rfl) (fun _ _ _ h => h) (Or.inl ⟨by rfl, ?_⟩) hHeld ?_ ?_
                            rotate_left
                            · intro w' _
                              go_simp
                              with_reducible rfl
                            rotate_left
                            · simp only [Act.put, List.setIfInBounds_toArray, List.set_cons_zero, List.set_cons_succ, i64_w, i32_w]
                              rfl
                            refine take_ (i := 5) (N := some 95) (v := ?_) (a' := ?_) #[true, true, true, true, true, true, false] rfl rfl (by kernel_rfl) (fun _ _ _ h => h) (Or.inl ⟨by rfl, ?_⟩) hHeld ?_ ?_
                            rotate_left
                            · intro w' _
                              go_simp
                              with_reducible rfl
                            rotate_left
                            · simp only [Act.put, List.setIfInBounds_toArray, List.set_cons_zero, List.set_cons_succ, i64_w, i32_w]
                              rfl
                            refine pure_ (i := 6) (N := some 96) (v := ?_) (a' := ?_) #[true, true, true, true, true, true, true] rfl rfl (by kernel_rfl) (fun _ _ _ h => h) (Or.inl ⟨by rfl, ?_⟩) ?_ ?_
                            rotate_left
                            · intro w'
                              go_simp
                              with_reducible rfl
                            rotate_left
                            · simp only [Act.put, List.setIfInBounds_toArray, List.set_cons_zero, List.set_cons_succ, i64_w, i32_w]
                              rfl
                            refine done_ (by kernel_rfl) ?_
                            try go_wp2
                            have n0_ := Aside0.mk (blk_drew BK101.out)
                            have n1_ := Aside0.mk (blk_drew BK102.out)
                            have n2_ := Aside0.mk (below_drew1 HB.out)
                            clear BK101
                            clear BK102
                            clear HB
                            have BK101 := n0_
                            have BK102 := n1_
                            have HB := n2_
                            clear n0_ n1_ n2_
                            have p72 : 0 ≤ (a1 : Int) := of_decide_eq_true (by first | (with_reducible assumption) | assumption)
                            have q72 : a1 < (a0.size : Int) := of_decide_eq_true (by first | (with_reducible assumption) | assumption)
                            have hx72 := bt_at a0 a1
                            replace p72 := eq_true p72
                            replace q72 := eq_true q72
                            refine start_ (n := 13) (S := fun w' => True) (ds := []) #[false, false, false, false, false, false, false, false, false, false, false, false, false] (by kernel_rfl) rfl rfl trivial (fun hHeld => ?_); refine with_tabW spoondriftref05_Cut.tab24 spoondriftref05_Cut.bits24 (fun HT_ HW_ => ?_)
                            generalize w76.drew = w77 at BK101 BK102 HB hHeld ⊢
                            refine pure_ (i := 0) (N := some 97) (v := ?_) (a' := ?_) #[true, false, false, false, false, false, false, false, false, false, false, false, false] rfl rfl (any_of HT_.out (by kernel_rfl)) (fun _ _ _ h => h) (Or.inl ⟨by rfl, ?_⟩) ?_ ?_
                            rotate_left
                            · intro w'
                              go_simp
                              with_reducible rfl
                            rotate_left
                            · simp only [Act.put, List.setIfInBounds_toArray, List.set_cons_zero, List.set_cons_succ, i64_w, i32_w]
                              rfl
                            refine pure_ (i := 1) (N := some 98) (v := ?_) (a' := ?_) #[true, true, false, false, false, false, false, false, false, false, false, false, false] rfl rfl (any_of HT_.out (by kernel_rfl)) (fun _ _ _ h => h) (Or.inl ⟨by rfl, ?_⟩) ?_ ?_
                            rotate_left
                            · intro w'
                              go_simp
                              with_reducible rfl
                            rotate_left
                            · simp only [Act.put, List.setIfInBounds_toArray, List.set_cons_zero, List.set_cons_succ, i64_w, i32_w]
                              rfl
                            refine pure_ (i := 4) (N := some 101) (v := ?_) (a' := ?_) #[true, true, false, false, true, false, false, false, false, false, false, false, false] rfl rfl (any_of HT_.out (by kernel_rfl)) (fun _ _ _ h => h) (Or.inl ⟨by rfl, ?_⟩) ?_ ?_
                            rotate_left
                            · intro w'
                              go_simp
                              with_reducible rfl
                            rotate_left
                            · simp only [Act.put, List.setIfInBounds_toArray, List.set_cons_zero, List.set_cons_succ, i64_w, i32_w]
                              rfl
                            refine pure_ (i := 5) (N := some 102) (v := ?_) (a' := ?_) #[true, true, false, false, true, true, false, false, false, false, false, false, false] rfl rfl (any_of HT_.out (by kernel_rfl)) (fun _ _ _ h => h) (Or.inl ⟨by rfl, ?_⟩) ?_ ?_
                            rotate_left
                            · intro w'
                              go_simp
                              with_reducible rfl
                            rotate_left
                            · simp only [Act.put, List.setIfInBounds_toArray, List.set_cons_zero, List.set_cons_succ, i64_w, i32_w]
                              rfl
                            refine pure_ (i := 6) (N := some 103) (v := ?_) (a' := ?_) #[true, true, false, false, true, true, true, false, false, false, false, false, false] rfl rfl (any_of HT_.out (by kernel_rfl)) (fun _ _ _ h => h) (Or.inl ⟨by rfl, ?_⟩) ?_ ?_
                            rotate_left
                            · intro w'
                              go_simp
                              with_reducible rfl
                            rotate_left
                            · simp only [Act.put, List.setIfInBounds_toArray, List.set_cons_zero, List.set_cons_succ, i64_w, i32_w]
                              rfl
                            refine pure_ (i := 7) (N := some 104) (v := ?_) (a' := ?_) #[true, true, false, false, true, true, true, true, false, false, false, false, false] rfl rfl (any_of HT_.out (by kernel_rfl)) (fun _ _ _ h => h) (Or.inl ⟨by rfl, ?_⟩) ?_ ?_
                            rotate_left
                            · intro w'
                              go_simp
                              with_reducible rfl
                            rotate_left
                            · simp only [Act.put, List.setIfInBounds_toArray, List.set_cons_zero, List.set_cons_succ, i64_w, i32_w]
                              rfl
                            refine pure_ (i := 8) (N := some 105) (v := ?_) (a' := ?_) #[true, true, false, false, true, true, true, true, true, false, false, false, false] rfl rfl (any_of HT_.out (by kernel_rfl)) (fun _ _ _ h => h) (Or.inl ⟨by rfl, ?_⟩) ?_ ?_
                            rotate_left
                            · intro w'
                              go_simp
                              with_reducible rfl
                            rotate_left
                            · simp only [Act.put, List.setIfInBounds_toArray, List.set_cons_zero, List.set_cons_succ, i64_w, i32_w]
                              rfl
                            refine take_ (i := 2) (N := some 99) (v := ?_) (a' := ?_) #[true, true, true, false, true, true, true, true, true, false, false, false, false] rfl rfl (take_ofW HT_.out HW_.out (by kernel_rfl)) (fun _ _ _ h => h) (Or.inl ⟨by rfl, ?_⟩) hHeld ?_ ?_
                            rotate_left
                            · intro w' _
                              go_simp
                              with_reducible rfl
                            rotate_left
                            · simp only [Act.put, List.setIfInBounds_toArray, List.set_cons_zero, List.set_cons_succ, i64_w, i32_w]
                              rfl
                            refine pure_ (i := 3) (N := some 100) (v := ?_) (a' := ?_) #[true, true, true, true, true, true, true, true, true, false, false, false, false] rfl rfl (any_of HT_.out (by kernel_rfl)) (fun _ _ _ h => h) (Or.inl ⟨by rfl, ?_⟩) ?_ ?_
                            rotate_left
                            · intro w'
                              go_simp
                              with_reducible rfl
                            rotate_left
                            · simp only [Act.put, List.setIfInBounds_toArray, List.set_cons_zero, List.set_cons_succ, i64_w, i32_w]
                              rfl
                            refine pure_ (i := 9) (N := some 106) (v := ?_) (a' := ?_) #[true, true, true, true, true, true, true, true, true, true, false, false, false] rfl rfl (any_of HT_.out (by kernel_rfl)) (fun _ _ _ h => h) (Or.inl ⟨by rfl, ?_⟩) ?_ ?_
                            rotate_left
                            · intro w'
                              go_simp
                              with_reducible rfl
                            rotate_left
                            · simp only [Act.put, List.setIfInBounds_toArray, List.set_cons_zero, List.set_cons_succ, i64_w, i32_w]
                              rfl
                            refine one_ (i := 10) (N := none) #[true, true, true, true, true, true, true, true, true, true, true, false, false] rfl rfl (one_of HT_.out (by kernel_rfl)) (by decide) (fun K hK => ?_)
                            have hs78 : w77.cell? ⟨gb102, 1, none⟩ = some (.int .i64 x103001_1) := (blk_cell BK102.out 1).trans rfl
                            have hfs78 := blk_frozen BK102.out 1
                            have hns78_0 := NB101_102.out
                            have hms78_0 := NB102_101.out
                            refine skip_ (w1 := ?_) (by rfl) rfl ?_ ?_
                            rotate_left
                            · go_simp
                              rfl
                            refine hK.out _ _ trivial (fun hHeld => ?_)
                            clear hK K
                            refine pure_ (i := 11) (N := some 107) (v := ?_) (a' := ?_) #[true, true, true, true, true, true, true, true, true, true, true, true, false] rfl rfl (any_of HT_.out (by kernel_rfl)) (fun _ _ _ h => h) (Or.inl ⟨by rfl, ?_⟩) ?_ ?_
                            rotate_left
                            · intro w'
                              go_simp
                              with_reducible rfl
                            rotate_left
                            · simp only [Act.put, List.setIfInBounds_toArray, List.set_cons_zero, List.set_cons_succ, i64_w, i32_w]
                              rfl
                            refine one_ (i := 12) (N := none) #[true, true, true, true, true, true, true, true, true, true, true, true, true] rfl rfl (one_of HT_.out (by kernel_rfl)) (by decide) (fun K hK => ?_)
                            have hs79 : w77.cell? ⟨gb102, 2, none⟩ = some (.string x103002_1) := (blk_cell BK102.out 2).trans rfl
                            have hfs79 := blk_frozen BK102.out 2
                            have hns79_0 := NB101_102.out
                            have hms79_0 := NB102_101.out
                            refine skip_ (w1 := ?_) (by rfl) rfl ?_ ?_
                            rotate_left
                            · go_simp
                              rfl
                            refine hK.out _ _ trivial (fun hHeld => ?_)
                            clear hK K
                            refine done_ (done_of HT_.out (by kernel_rfl)) ?_
                            have hnb80 := NB102_101.out
                            have hnc80 := NB101_102.out
                            have hcz81_0 : w77.cell? ⟨gb102, 0, none⟩ = some (.int .i64 a1) := (blk_cell BK102.out 0).trans rfl
                            have hcz81_1 : w77.cell? ⟨gb102, 1, none⟩ = some (.int .i64 x103001_1) := (blk_cell BK102.out 1).trans rfl
                            have hcz81_2 : w77.cell? ⟨gb102, 2, none⟩ = some (.string x103002_1) := (blk_cell BK102.out 2).trans rfl
                            have hfz81_0 := blk_frozen BK102.out 0
                            have hfz81_1 := blk_frozen BK102.out 1
                            have hfz81_2 := blk_frozen BK102.out 2
                            have hcz82_0 : w77.cell? ⟨gb101, 0, none⟩ = some (.int .i64 x102000_1) := (blk_cell BK101.out 0).trans rfl
                            have hcz82_1 : w77.cell? ⟨gb101, 1, none⟩ = some (.int .i64 x102001_1) := (blk_cell BK101.out 1).trans rfl
                            have hcz82_2 : w77.cell? ⟨gb101, 2, none⟩ = some (.string x102002_1) := (blk_cell BK101.out 2).trans rfl
                            have hfz82_0 := blk_frozen BK101.out 0
                            have hfz82_1 := blk_frozen BK101.out 1
                            have hfz82_2 := blk_frozen BK101.out 2
                            try go_wp2
                            refine bodyPost_ret (results_ct rfl _ _ gb101 104 #[.int .i64 a1, .int .i64 (wrap64 (bt a0 a1)), .string (a0.extract (a1 : Int).toNat ((wrap64 (a1 + 1)) : Int).toNat)] (0, 0) _ rfl (by (with_reducible repeat (first | refine blk_drewN ?_ _ | refine blk_drew ?_ | refine blk_alloc ?_ _)); refine blk_put (cs := #[.int .i64 a1, .int .i64 (wrap64 (bt a0 a1)), .string x102002_1]) ?_ 2 _ rfl; (with_reducible repeat (first | refine blk_drewN ?_ _ | refine blk_drew ?_ | refine blk_alloc ?_ _)); refine blk_put (cs := #[.int .i64 a1, .int .i64 x102001_1, .string x102002_1]) ?_ 1 _ rfl; (with_reducible repeat (first | refine blk_drewN ?_ _ | refine blk_drew ?_ | refine blk_alloc ?_ _)); refine blk_put (cs := #[.int .i64 x102000_1, .int .i64 x102001_1, .string x102002_1]) ?_ 0 _ rfl; (with_reducible repeat (first | refine blk_drewN ?_ _ | refine blk_drew ?_ | refine blk_alloc ?_ _)); refine blk_far ?_ NB101_102.out _; (with_reducible repeat (first | refine blk_drewN ?_ _ | refine blk_drew ?_ | refine blk_alloc ?_ _)); refine blk_far ?_ NB101_102.out _; (with_reducible repeat (first | refine blk_drewN ?_ _ | refine blk_drew ?_ | refine blk_alloc ?_ _)); exact BK101.out) Tryz.underlying104 rfl (by kernel_rfl)) rfl ?_
                            exact ⟨by first | rfl | (simp [errW_none, errW_some] <;> rfl) | (simp [*, errW_none, errW_some] <;> rfl), by repeat (first | (with_reducible first | exact HB.out | apply below_alloc | apply pw_below_drewN | apply below_drew1 | refine below_set ?_ GE101.out | refine below_set ?_ GE102.out) | exact HB.out)⟩
                          · rw [if_neg c75] at H
                            exact absurd H (by simp)
                        · rw [if_neg c74] at H
                          exact absurd H (by simp)
                      · rw [if_neg c71] at H
                        have c71b0 : ((bt a3 x13_1) == (bt a0 a1)) = false := beq_eq_false_iff_ne.mpr c71
                        have c71b1 : ((bt a3 x13_1) != (bt a0 a1)) = true := bne_iff_ne.mpr c71
                        have H' := Aside0.mk H
                        clear H
                        try go_wp2
                        have n0_ := Aside0.mk (blk_drew BK101.out)
                        have n1_ := Aside0.mk (blk_drew BK102.out)
                        have n2_ := Aside0.mk (below_drew1 HB.out)
                        clear BK101
                        clear BK102
                        clear HB
                        have BK101 := n0_
                        have BK102 := n1_
                        have HB := n2_
                        clear n0_ n1_ n2_
                        have p67 : 0 ≤ (x13_1 : Int) := of_decide_eq_true (by first | (with_reducible assumption) | assumption)
                        have q67 : x13_1 < (a3.size : Int) := of_decide_eq_true (by first | (with_reducible assumption) | assumption)
                        have hx67 := bt_at a3 x13_1
                        replace p67 := eq_true p67
                        replace q67 := eq_true q67
                        have p70 : 0 ≤ (a1 : Int) := of_decide_eq_true (by first | (with_reducible assumption) | assumption)
                        have q70 : a1 < (a0.size : Int) := of_decide_eq_true (by first | (with_reducible assumption) | assumption)
                        have hx70 := bt_at a0 a1
                        replace p70 := eq_true p70
                        replace q70 := eq_true q70
                        refine start_ (n := 7) (S := fun w' => True) (ds := []) #[false, false, false, false, false, false, false] (by kernel_rfl) rfl rfl trivial (fun hHeld => ?_)
                        generalize wr.drew = w83 at BK101 BK102 HB hHeld ⊢
                        refine pure_ (i := 0) (N := some 90) (v := ?_) (a' := ?_) #[true, false, false, false, false, false, false] rfl rfl (by kernel_rfl) (fun _ _ _ h => h) (Or.inl ⟨by rfl, ?_⟩) ?_ ?_
                        rotate_left
                        · intro w'
                          go_simp
                          with_reducible rfl
                        rotate_left
                        · simp only [Act.put, List.setIfInBounds_toArray, List.set_cons_zero, List.set_cons_succ, i64_w, i32_w]
                          rfl
                        refine pure_ (i := 1) (N := some 91) (v := ?_) (a' := ?_) #[true, true, false, false, false, false, false] rfl rfl (by kernel_rfl) (fun _ _ _ h => h) (Or.inl ⟨by rfl, ?_⟩) ?_ ?_
                        rotate_left
                        · intro w'
                          go_simp
                          with_reducible rfl
                        rotate_left
                        · simp only [Act.put, List.setIfInBounds_toArray, List.set_cons_zero, List.set_cons_succ, i64_w, i32_w]
                          rfl
                        refine pure_ (i := 3) (N := some 93) (v := ?_) (a' := ?_) #[true, true, false, true, false, false, false] rfl rfl (by kernel_rfl) (fun _ _ _ h => h) (Or.inl ⟨by rfl, ?_⟩) ?_ ?_
                        rotate_left
                        · intro w'
                          go_simp
                          with_reducible rfl
                        rotate_left
                        · simp only [Act.put, List.setIfInBounds_toArray, List.set_cons_zero, List.set_cons_succ, i64_w, i32_w]
                          rfl
                        refine pure_ (i := 4) (N := some 94) (v := ?_) (a' := ?_) #[true, true, false, true, true, false, false] rfl rfl (by kernel_rfl) (fun _ _ _ h => h) (Or.inl ⟨by rfl, ?_⟩) ?_ ?_
                        rotate_left
                        · intro w'
                          go_simp
                          with_reducible rfl
                        rotate_left
                        · simp only [Act.put, List.setIfInBounds_toArray, List.set_cons_zero, List.set_cons_succ, i64_w, i32_w]
                          rfl
                        refine take_ (i := 2) (N := some 92) (v := ?_) (a' := ?_) #[true, true, true, true, true, false, false] rfl rfl (by kernel_rfl) (fun _ _ _ h => h) (Or.inl ⟨by rfl, ?_⟩) hHeld ?_ ?_
                        rotate_left
                        · intro w' _
                          go_simp
                          with_reducible rfl
                        rotate_left
                        · simp only [Act.put, List.setIfInBounds_toArray, List.set_cons_zero, List.set_cons_succ, i64_w, i32_w]
                          rfl
                        refine take_ (i := 5) (N := some 95) (v := ?_) (a' := ?_) #[true, true, true, true, true, true, false] rfl rfl (by kernel_rfl) (fun _ _ _ h => h) (Or.inl ⟨by rfl, ?_⟩) hHeld ?_ ?_
                        rotate_left
                        · intro w' _
                          go_simp
                          with_reducible rfl
                        rotate_left
                        · simp only [Act.put, List.setIfInBounds_toArray, List.set_cons_zero, List.set_cons_succ, i64_w, i32_w]
                          rfl
                        refine pure_ (i := 6) (N := some 96) (v := ?_) (a' := ?_) #[true, true, true, true, true, true, true] rfl rfl (by kernel_rfl) (fun _ _ _ h => h) (Or.inl ⟨by rfl, ?_⟩) ?_ ?_
                        rotate_left
                        · intro w'
                          go_simp
                          with_reducible rfl
                        rotate_left
                        · simp only [Act.put, List.setIfInBounds_toArray, List.set_cons_zero, List.set_cons_succ, i64_w, i32_w]
                          rfl
                        refine done_ (by kernel_rfl) ?_
                        try go_wp2
                        go_roundg k1
                        case measure => have := HK1.out; omega
                        case rel => exact ⟨(wrap64 (x13_1 + 1)), (x102000_1), (x102001_1), (x102002_1), (x103001_1), (x103002_1), (by first | rfl | (simp; done) | (simp [*]; done)), H', ⟨by have := HK1.out; omega⟩, ⟨by (with_reducible repeat (first | refine blk_drewN ?_ _ | refine blk_drew ?_ | refine blk_alloc ?_ _)); exact BK101.out⟩, ⟨by (with_reducible repeat (first | refine blk_drewN ?_ _ | refine blk_drew ?_ | refine blk_alloc ?_ _)); exact BK102.out⟩, ⟨by repeat (first | (with_reducible first | exact HB.out | apply below_alloc | apply pw_below_drewN | apply below_drew1 | refine below_set ?_ GE101.out | refine below_set ?_ GE102.out) | exact HB.out)⟩⟩
                    · rw [if_neg c69] at H
                      exact absurd H (by simp)
                  · rw [if_neg c68] at H
                    exact absurd H (by simp)
                · rw [if_neg c66] at H
                  exact absurd H (by simp)
              · rw [if_neg c65] at H
                have c65b0 : decide (x13_1 < (a3.size : Int)) = false := decide_eq_false c65
                clear c65
                simp only [Option.some.injEq, Prod.mk.injEq] at H
                obtain ⟨rfl, rfl, rfl, rfl⟩ := H
                have hnb84 := NB102_101.out
                have hnc84 := NB101_102.out
                have hcz85_0 : wr.cell? ⟨gb102, 0, none⟩ = some (.int .i64 a1) := (blk_cell BK102.out 0).trans rfl
                have hcz85_1 : wr.cell? ⟨gb102, 1, none⟩ = some (.int .i64 x103001_1) := (blk_cell BK102.out 1).trans rfl
                have hcz85_2 : wr.cell? ⟨gb102, 2, none⟩ = some (.string x103002_1) := (blk_cell BK102.out 2).trans rfl
                have hfz85_0 := blk_frozen BK102.out 0
                have hfz85_1 := blk_frozen BK102.out 1
                have hfz85_2 := blk_frozen BK102.out 2
                have hcz86_0 : wr.cell? ⟨gb101, 0, none⟩ = some (.int .i64 x102000_1) := (blk_cell BK101.out 0).trans rfl
                have hcz86_1 : wr.cell? ⟨gb101, 1, none⟩ = some (.int .i64 x102001_1) := (blk_cell BK101.out 1).trans rfl
                have hcz86_2 : wr.cell? ⟨gb101, 2, none⟩ = some (.string x102002_1) := (blk_cell BK101.out 2).trans rfl
                have hfz86_0 := blk_frozen BK101.out 0
                have hfz86_1 := blk_frozen BK101.out 1
                have hfz86_2 := blk_frozen BK101.out 2
                go_wp2
                refine bodyPost_ret (results_ct rfl _ _ gb101 104 #[.int .i64 a1, .int .i64 x103001_1, .string x103002_1] (0, 0) _ rfl (by (with_reducible repeat (first | refine blk_drewN ?_ _ | refine blk_drew ?_ | refine blk_alloc ?_ _)); refine blk_put (cs := #[.int .i64 a1, .int .i64 x103001_1, .string x102002_1]) ?_ 2 _ rfl; (with_reducible repeat (first | refine blk_drewN ?_ _ | refine blk_drew ?_ | refine blk_alloc ?_ _)); refine blk_put (cs := #[.int .i64 a1, .int .i64 x102001_1, .string x102002_1]) ?_ 1 _ rfl; (with_reducible repeat (first | refine blk_drewN ?_ _ | refine blk_drew ?_ | refine blk_alloc ?_ _)); refine blk_put (cs := #[.int .i64 x102000_1, .int .i64 x102001_1, .string x102002_1]) ?_ 0 _ rfl; (with_reducible repeat (first | refine blk_drewN ?_ _ | refine blk_drew ?_ | refine blk_alloc ?_ _)); exact BK101.out) Tryz.underlying104 rfl (by kernel_rfl)) rfl ?_
                exact ⟨by first | rfl | (simp [errW_none, errW_some] <;> rfl) | (simp [*, errW_none, errW_some] <;> rfl), by repeat (first | (with_reducible first | exact HB.out | apply below_alloc | apply pw_below_drewN | apply below_drew1 | refine below_set ?_ GE101.out | refine below_set ?_ GE102.out) | exact HB.out)⟩
    · rw [if_neg c6] at H
      exact absurd H (by simp)
  · rw [if_neg c5] at H
    exact absurd H (by simp)
end Go.Proofs.YtonnegkpjmhomaaGreatDoorPR
end
section
set_option linter.all false
namespace Go.Proofs.YtonnegkpjmhomaaGreatDoor
open Go.RowKit Go.Proofs.YtonnegkpjmhomaaGreatDoorPR Go.Proofs.YtonnegkpjmhomaaGreatDoorW.PrintWords Go.Proofs.YtonnegkpjmhomaaGreatDoorW.PrintLast Go.Proofs.YtonnegkpjmhomaaGreatDoorW.PrintMore
theorem bt_bs (l : List UInt8) (i : Nat) (h : i < l.length) : YtonnegkpjmhomaaGreatDoorW.PrintWords.bt (bs l) (i : Int) = ((l[i]).toNat : Int) := by
  unfold YtonnegkpjmhomaaGreatDoorW.PrintWords.bt
  rw [Int.toNat_natCast, dif_pos (by rw [bs_size]; exact h), bs_get]
theorem wr1 (i : Nat) (h : i ≤ 4000000000) : wrap64 ((i : Int) + 1) = ((i + 1 : Nat) : Int) := by unfold wrap64; omega
theorem u8_eq {b c : UInt8} : ((b.toNat : Int) = (c.toNat : Int)) ↔ b = c := ⟨fun h => UInt8.toNat.inj (by omega), fun h => by rw [h]⟩
theorem lay_eq (l : List UInt8) (hl : l.length ≤ 1000000) : ∀ (d i k : Nat), i + d = l.length → 2 * d + 2 ≤ k →
    spoondriftref05_Layout.l0 k (bs l) i = some ((i + lay false (l.drop i) : Nat) : Int) ∧ spoondriftref05_Layout.l1 k (bs l) i = some ((i + lay true (l.drop i) : Nat) : Int)
  | 0, i, k, hi, hk => by
    obtain ⟨k, rfl⟩ : ∃ m, k = m + 2 := ⟨k - 2, by omega⟩
    have h0 : ∀ k, spoondriftref05_Layout.l0 (k + 1) (bs l) i = some ((i : Nat) : Int) := fun k => by
      rw [spoondriftref05_Layout.l0, bs_size, if_neg (by omega)]
    rw [List.drop_of_length_le (by omega)]
    refine ⟨h0 _, ?_⟩
    rw [spoondriftref05_Layout.l1, bs_size, if_neg (by omega), h0]
    rfl
  | d + 1, i, k, hi, hk => by
    obtain ⟨k, rfl⟩ : ∃ m, k = m + 2 := ⟨k - 2, by omega⟩
    have hlt : i < l.length := by omega
    have ih := lay_eq l hl d (i + 1) k (by omega) (by omega)
    have ih1 := lay_eq l hl d (i + 1) (k + 1) (by omega) (by omega)
    have hd : l.drop i = l[i] :: l.drop (i + 1) := List.drop_eq_getElem_cons hlt
    have hb := bt_bs l i hlt
    have s0 : ∀ m, spoondriftref05_Layout.l0 (m + 1) (bs l) i = if l[i] = 35 then spoondriftref05_Layout.l1 m (bs l) i else if isB l[i] then spoondriftref05_Layout.l0 m (bs l) ((i + 1 : Nat) : Int) else some (i : Int) := by
      intro m
      rw [spoondriftref05_Layout.l0, bs_size, if_pos (by omega), if_pos (by omega), hb, wr1 i (by omega)]
      by_cases h35 : l[i] = 35
      · rw [if_pos h35, if_pos (by rw [h35]; rfl)]
      · rw [if_neg h35, if_neg (fun h => h35 (u8_eq.1 (by rw [h]; rfl)))]
        unfold isB
        by_cases h32 : l[i] = 32
        · rw [if_pos (by rw [h32]; rfl), if_pos (by rw [h32]; rfl)]
        · rw [if_neg (fun h => h32 (u8_eq.1 (by rw [h]; rfl)))]
          by_cases h10 : l[i] = 10
          · rw [if_pos (by rw [h10]; rfl), if_pos (by rw [h10]; rfl)]
          · rw [if_neg (fun h => h10 (u8_eq.1 (by rw [h]; rfl))), if_neg (by simp [h32, h10])]
    have s1 : ∀ m, spoondriftref05_Layout.l1 (m + 1) (bs l) i = if l[i] = 10 then spoondriftref05_Layout.l0 m (bs l) i else spoondriftref05_Layout.l1 m (bs l) ((i + 1 : Nat) : Int) := by
      intro m
      rw [spoondriftref05_Layout.l1, bs_size, if_pos (by omega), if_pos (by omega), hb, wr1 i (by omega)]
      by_cases h10 : l[i] = 10
      · rw [if_pos h10, if_pos (by rw [h10]; rfl)]
      · rw [if_neg h10, if_neg (fun h => h10 (u8_eq.1 (by rw [h]; rfl)))]
    rw [hd]
    refine ⟨?_, ?_⟩
    · rw [s0]
      unfold lay
      by_cases h35 : l[i] = 35
      · have hB : isB l[i] = false := by rw [h35]; rfl
        rw [if_pos h35, s1, if_neg (by rw [h35]; decide), ih.2, hB, if_neg (by decide), if_pos (by rw [h35]; rfl)]
        congr 1; omega
      · rw [if_neg h35]
        by_cases hB : isB l[i] = true
        · rw [if_pos hB, if_pos hB, ih1.1]
          congr 1; omega
        · rw [if_neg hB, if_neg hB, if_neg (by simpa using h35)]
          rfl
    · rw [s1]
      unfold lay
      by_cases h10 : l[i] = 10
      · rw [if_pos h10, s0, if_neg (by rw [h10]; decide), if_pos (by rw [h10]; rfl), ih.1, show (l[i] != 10) = false by rw [h10]; rfl]
        congr 1; omega
      · rw [if_neg h10, ih1.2, show (l[i] != 10) = true by simpa using h10]
        congr 1; omega
theorem Layout_eq (l : List UInt8) (hl : l.length ≤ 1000000) (i k : Nat) (hi : i ≤ l.length) (hk : 2 * l.length + 2 ≤ k) : spoondriftref05_Layout.f k (bs l) i = some ((i + lay false (l.drop i) : Nat) : Int) :=
  (lay_eq l hl (l.length - i) i k (by omega) (by omega)).1
theorem tw_next (p : UInt8 → Bool) : ∀ (L : List UInt8) (j : Nat), j ≤ (L.takeWhile p).length →
    (∀ h : j < L.length, p L[j] = decide (j < (L.takeWhile p).length)) ∧ (L.length ≤ j → (L.takeWhile p).length = j) ∧ L.take j = (L.takeWhile p).take j
  | [], j, h => by
    have h : j ≤ 0 := by simpa using h
    exact ⟨fun h2 => by simp at h2, fun _ => by simp; omega, by simp⟩
  | c :: L, 0, h => by
    refine ⟨fun h2 => ?_, fun h2 => by simp at h2, by simp⟩
    by_cases hc : p c = true
    · rw [List.takeWhile_cons_of_pos hc]; simp [hc]
    · rw [List.takeWhile_cons_of_neg hc]; simpa using hc
  | c :: L, j + 1, h => by
    by_cases hc : p c = true
    · rw [List.takeWhile_cons_of_pos hc] at h ⊢
      obtain ⟨h1, h2, h3⟩ := tw_next p L j (by simpa using h)
      refine ⟨fun h4 => ?_, fun h4 => ?_, by simp [h3]⟩
      · have := h1 (by simpa using h4)
        rw [List.getElem_cons_succ, this]
        simp
      · have := h2 (by simpa using h4)
        simp [this]
    · rw [List.takeWhile_cons_of_neg hc] at h; simp at h
theorem letter_f (b : UInt8) : spoondriftref05_letter.f (b.toNat : Int) = some (isL b) := by
  unfold spoondriftref05_letter.f isL
  by_cases h : 97 ≤ b.toNat
  · rw [if_pos (by omega), decide_eq_true h, Bool.true_and]
    congr 1
    rw [Bool.eq_iff_iff]; simp
    omega
  · rw [if_neg (by omega), decide_eq_false h, Bool.false_and]
theorem digit_f (b : UInt8) : spoondriftref05_digit.f (b.toNat : Int) = some (isD b) := by
  unfold spoondriftref05_digit.f isD
  by_cases h : 48 ≤ b.toNat
  · rw [if_pos (by omega), decide_eq_true h, Bool.true_and]
    congr 1
    rw [Bool.eq_iff_iff]; simp
    omega
  · rw [if_neg (by omega), decide_eq_false h, Bool.false_and]
theorem ext_take (l : List UInt8) (a j : Nat) : (bs l).extract a (a + j) = bs ((l.drop a).take j) := by
  apply ByteArray.ext
  simp only [bs, ByteArray.data_extract]
  apply Array.ext'
  simp only [Array.toList_extract, List.extract_eq_take_drop]
  rw [Nat.add_sub_cancel_left]
theorem cut_word (l : List UInt8) (hl : l.length ≤ 1000000) (a : Nat) (ha : a ≤ l.length) : ∀ (m j k : Nat), j + m = 8 → 2 * m + 2 ≤ k → j ≤ ((l.drop a).takeWhile isL).length →
    spoondriftref05_Cut.l0 k (bs l) a ((a + j : Nat) : Int) a 1 (bs ((l.drop a).take j)) = some ((a : Int), 1, bs (((l.drop a).takeWhile isL).take 8), if 8 < ((l.drop a).takeWhile isL).length then (a : Int) + 8 else -1) := by
  have hdl : (l.drop a).length = l.length - a := List.length_drop
  have hTl : ((l.drop a).takeWhile isL).length ≤ l.length - a := by rw [← hdl]; exact takeWhile_le isL _
  have stop : ∀ (j k : Nat), 1 ≤ k → j ≤ 8 → ((l.drop a).takeWhile isL).length = j → spoondriftref05_Cut.j1 k (bs l) a ((a + j : Nat) : Int) false a 1 (bs ((l.drop a).take j)) = some ((a : Int), 1, bs (((l.drop a).takeWhile isL).take 8), if 8 < ((l.drop a).takeWhile isL).length then (a : Int) + 8 else -1) := by
    intro j k hk hj hn
    obtain ⟨k, rfl⟩ : ∃ m, k = m + 1 := ⟨k - 1, by omega⟩
    rw [spoondriftref05_Cut.j1, if_neg (by decide), if_neg (by omega), (tw_next isL (l.drop a) j (by omega)).2.2, List.take_of_length_le (by omega), List.take_of_length_le (by omega)]
  intro m
  induction m with
  | zero =>
    intro j k hj hk hjn
    obtain ⟨k, rfl⟩ : ∃ m, k = m + 2 := ⟨k - 2, by omega⟩
    obtain rfl : j = 8 := by omega
    obtain ⟨h1, h2, h3⟩ := tw_next isL (l.drop a) 8 hjn
    rw [spoondriftref05_Cut.l0, bs_size]
    by_cases hlt : a + 8 < l.length
    · rw [if_pos (by omega), if_pos (by omega), bt_bs l (a + 8) hlt, letter_f, Option.bind_some]
      have h4 := h1 (by omega)
      rw [List.getElem_drop] at h4
      rw [h4]
      by_cases hn : 8 < ((l.drop a).takeWhile isL).length
      · rw [decide_eq_true hn, spoondriftref05_Cut.j1, if_pos rfl, if_pos (by rw [bs_size, List.length_take]; omega), if_pos hn, h3]
        rfl
      · rw [decide_eq_false hn]
        exact stop 8 (k + 1) (by omega) (by omega) (by omega)
    · rw [if_neg (by omega)]
      exact stop 8 (k + 1) (by omega) (by omega) (h2 (by omega))
  | succ m ih =>
    intro j k hj hk hjn
    obtain ⟨k, rfl⟩ : ∃ m, k = m + 2 := ⟨k - 2, by omega⟩
    obtain ⟨h1, h2, h3⟩ := tw_next isL (l.drop a) j hjn
    rw [spoondriftref05_Cut.l0, bs_size]
    by_cases hlt : a + j < l.length
    · rw [if_pos (by omega), if_pos (by omega), bt_bs l (a + j) hlt, letter_f, Option.bind_some]
      have h4 := h1 (by omega)
      rw [List.getElem_drop] at h4
      rw [h4]
      by_cases hn : j < ((l.drop a).takeWhile isL).length
      · rw [decide_eq_true hn, spoondriftref05_Cut.j1, if_pos rfl, if_neg (by rw [bs_size, List.length_take]; omega), wr1 (a + j) (by omega), bs_size, if_pos (by omega), if_pos (by omega), if_pos (by omega)]
        rw [Int.toNat_natCast, Int.toNat_natCast, show a + j + 1 = a + (j + 1) by omega, ext_take]
        exact ih (j + 1) k (by omega) (by omega) (by omega)
      · rw [decide_eq_false hn]
        exact stop j (k + 1) (by omega) (by omega) (by omega)
    · rw [if_neg (by omega)]
      exact stop j (k + 1) (by omega) (by omega) (h2 (by omega))
theorem num_stop (l : List UInt8) (a j k : Nat) (hk : 1 ≤ k) : spoondriftref05_Cut.j3 k (bs l) a 3 ((a + j : Nat) : Int) false a 2 (bs ((l.drop a).take j)) = some ((a : Int), 2, bs ((l.drop a).take j), -1) := by
  obtain ⟨k, rfl⟩ : ∃ m, k = m + 1 := ⟨k - 1, by omega⟩
  rw [spoondriftref05_Cut.j3, if_neg (by decide)]
theorem bs_toList (l : List UInt8) : (bs l).toList = l := by rw [ByteArray.toList_eq, bs_list]
theorem num_step (l : List UInt8) (hl : l.length ≤ 1000000) (a j k : Nat) (hlt : a + j < l.length) (hD : isD l[a + j] = true) (h3 : j < 3) (h0 : (l.drop a).take j ≠ [48]) :
    spoondriftref05_Cut.l1 (k + 2) (bs l) a 3 ((a + j : Nat) : Int) a 2 (bs ((l.drop a).take j)) = spoondriftref05_Cut.l1 k (bs l) a 3 ((a + (j + 1) : Nat) : Int) a 2 (bs ((l.drop a).take (j + 1))) := by
  rw [spoondriftref05_Cut.l1, bs_size, if_pos (by omega), if_pos (by omega), bt_bs l (a + j) hlt, digit_f, Option.bind_some, hD, spoondriftref05_Cut.j3, if_pos rfl, if_neg (by rw [bs_size, List.length_take, List.length_drop]; omega), if_neg (by rw [bs_toList]; exact h0),
    wr1 (a + j) (by omega), bs_size, if_pos (by omega), if_pos (by omega), if_pos (by omega), Int.toNat_natCast, Int.toNat_natCast, show a + j + 1 = a + (j + 1) by omega, ext_take]
theorem num_end (l : List UInt8) (a j k : Nat) (hk : 2 ≤ k) (h : ∀ hlt : a + j < l.length, isD l[a + j] = false) :
    spoondriftref05_Cut.l1 k (bs l) a 3 ((a + j : Nat) : Int) a 2 (bs ((l.drop a).take j)) = some ((a : Int), 2, bs ((l.drop a).take j), -1) := by
  obtain ⟨k, rfl⟩ : ∃ m, k = m + 2 := ⟨k - 2, by omega⟩
  rw [spoondriftref05_Cut.l1, bs_size]
  by_cases hlt : a + j < l.length
  · rw [if_pos (by omega), if_pos (by omega), bt_bs l (a + j) hlt, digit_f, Option.bind_some, h hlt]
    exact num_stop l a j _ (by omega)
  · rw [if_neg (by omega)]
    exact num_stop l a j _ (by omega)
theorem num_full (l : List UInt8) (a j k : Nat) (hk : 2 ≤ k) (hlt : a + j < l.length) (hD : isD l[a + j] = true) (h3 : ((l.drop a).take j).length = 3 ∨ (l.drop a).take j = [48]) :
    spoondriftref05_Cut.l1 k (bs l) a 3 ((a + j : Nat) : Int) a 2 (bs ((l.drop a).take j)) = some ((a : Int), 2, bs ((l.drop a).take j), ((a + j : Nat) : Int)) := by
  obtain ⟨k, rfl⟩ : ∃ m, k = m + 2 := ⟨k - 2, by omega⟩
  rw [spoondriftref05_Cut.l1, bs_size, if_pos (by omega), if_pos (by omega), bt_bs l (a + j) hlt, digit_f, Option.bind_some, hD, spoondriftref05_Cut.j3, if_pos rfl]
  rcases h3 with h3 | h3
  · rw [if_pos (by rw [bs_size, h3]; rfl)]
  · rw [if_neg (by rw [bs_size, h3]; decide), if_pos (by rw [bs_toList]; exact h3)]
theorem cut_num (l : List UInt8) (hl : l.length ≤ 1000000) (a : Nat) (c : UInt8) (r : List UInt8) (hc : l.drop a = c :: r) (hD : isD c = true) (k : Nat) (hk : 10 ≤ k) :
    spoondriftref05_Cut.l1 k (bs l) a 3 a a 2 (bs []) = some ((a : Int), 2, bs (if c = 48 then [48] else ((c :: r).takeWhile isD).take 3),
      if c = 48 then (if 1 < ((c :: r).takeWhile isD).length then (a : Int) + 1 else -1) else if 3 < ((c :: r).takeWhile isD).length then (a : Int) + 3 else -1) := by
  have hdl : (l.drop a).length = l.length - a := List.length_drop
  have hal : a < l.length := by
    rcases Nat.lt_or_ge a l.length with h | h
    · exact h
    · rw [List.drop_of_length_le h] at hc; cases hc
  rw [← hc]
  have hT1 : 1 ≤ ((l.drop a).takeWhile isD).length := by rw [hc]; exact takeWhile_ne hD
  have nx : ∀ j, j ≤ ((l.drop a).takeWhile isD).length → ∀ hlt : a + j < l.length, isD l[a + j] = decide (j < ((l.drop a).takeWhile isD).length) := fun j hj hlt => by
    have h4 := (tw_next isD (l.drop a) j hj).1 (by omega)
    rw [List.getElem_drop] at h4
    exact h4
  have hlen : ∀ j, j ≤ ((l.drop a).takeWhile isD).length → l.length ≤ a + j → ((l.drop a).takeWhile isD).length = j := fun j hj h => (tw_next isD (l.drop a) j hj).2.1 (by omega)
  have tk : ∀ j, j ≤ ((l.drop a).takeWhile isD).length → (l.drop a).take j = ((l.drop a).takeWhile isD).take j := fun j hj => (tw_next isD (l.drop a) j hj).2.2
  have t1 : (l.drop a).take 1 = [c] := by rw [hc]; rfl
  have g0 : isD l[a + 0] = true := by rw [nx 0 (by omega) (by omega)]; exact decide_eq_true (by omega)
  obtain ⟨k, rfl⟩ : ∃ m, k = m + 10 := ⟨k - 10, by omega⟩
  have z0 : spoondriftref05_Cut.l1 (k + 10) (bs l) a 3 a a 2 (bs []) = spoondriftref05_Cut.l1 (k + 8) (bs l) a 3 ((a + 1 : Nat) : Int) a 2 (bs ((l.drop a).take 1)) := num_step l hl a 0 (k + 8) (by omega) g0 (by omega) (by simp)
  rw [z0]
  by_cases h48 : c = 48
  · subst h48
    rw [if_pos rfl, if_pos rfl, t1]
    by_cases hn : 1 < ((l.drop a).takeWhile isD).length
    · rw [if_pos hn]
      have hlt : a + 1 < l.length := by
        rcases Nat.lt_or_ge (a + 1) l.length with h | h
        · exact h
        · have := hlen 1 (by omega) h; omega
      have := num_full l a 1 (k + 8) (by omega) hlt (by rw [nx 1 (by omega) hlt, decide_eq_true hn]) (.inr t1)
      rw [t1] at this
      exact this
    · rw [if_neg hn]
      have := num_end l a 1 (k + 8) (by omega) (fun hlt => by rw [nx 1 (by omega) hlt, decide_eq_false hn])
      rw [t1] at this
      exact this
  · rw [if_neg h48, if_neg h48]
    have done : ∀ j m, 2 ≤ m → j ≤ 3 → ((l.drop a).takeWhile isD).length = j → spoondriftref05_Cut.l1 m (bs l) a 3 ((a + j : Nat) : Int) a 2 (bs ((l.drop a).take j)) = some ((a : Int), 2, bs (((l.drop a).takeWhile isD).take 3), if 3 < ((l.drop a).takeWhile isD).length then (a : Int) + 3 else -1) := fun j m hm hj hn => by
      rw [num_end l a j m hm (fun hlt => by rw [nx j (by omega) hlt, decide_eq_false (by omega)]), if_neg (by omega), tk j (by omega), List.take_of_length_le (by omega), List.take_of_length_le (by omega)]
    have more : ∀ j, 1 ≤ j → j < 3 → j < ((l.drop a).takeWhile isD).length → ∀ m, spoondriftref05_Cut.l1 (m + 2) (bs l) a 3 ((a + j : Nat) : Int) a 2 (bs ((l.drop a).take j)) = spoondriftref05_Cut.l1 m (bs l) a 3 ((a + (j + 1) : Nat) : Int) a 2 (bs ((l.drop a).take (j + 1))) := fun j h1 h3 hn m => by
      have hlt : a + j < l.length := by
        rcases Nat.lt_or_ge (a + j) l.length with h | h
        · exact h
        · have := hlen j (by omega) h; omega
      refine num_step l hl a j m hlt (by rw [nx j (by omega) hlt, decide_eq_true hn]) h3 ?_
      intro h
      have hl2 := congrArg List.length h
      rw [List.length_take, hdl] at hl2
      obtain rfl : j = 1 := by simp at hl2; omega
      rw [t1] at h
      exact h48 (by injection h)
    by_cases n1 : 1 < ((l.drop a).takeWhile isD).length
    · rw [more 1 (by omega) (by omega) n1 (k + 6)]
      by_cases n2 : 2 < ((l.drop a).takeWhile isD).length
      · rw [more 2 (by omega) (by omega) n2 (k + 4)]
        by_cases n3 : 3 < ((l.drop a).takeWhile isD).length
        · have hlt : a + 3 < l.length := by
            rcases Nat.lt_or_ge (a + 3) l.length with h | h
            · exact h
            · have := hlen 3 (by omega) h; omega
          rw [num_full l a 3 (k + 4) (by omega) hlt (by rw [nx 3 (by omega) hlt, decide_eq_true n3]) (.inl (by rw [List.length_take]; omega)), if_pos n3, tk 3 (by omega)]
          rfl
        · exact done 3 _ (by omega) (by omega) (by omega)
      · exact done 2 _ (by omega) (by omega) (by omega)
    · exact done 1 _ (by omega) (by omega) (by omega)
theorem cut_sign (l : List UInt8) (hl : l.length ≤ 1000000) (a : Nat) (c : UInt8) (r : List UInt8) (hc : l.drop a = c :: r) (k : Nat) (hk : 4 ≤ k) :
    spoondriftref05_Cut.l2 k (bs l) a (bs [58, 59]) 0 a 0 (bs []) = if List.contains [58, 59] c then some ((a : Int), (c.toNat : Int), bs [c], -1) else some ((a : Int), 0, bs [], (a : Int)) := by
  have hal : a < l.length := by
    rcases Nat.lt_or_ge a l.length with h | h
    · exact h
    · rw [List.drop_of_length_le h] at hc; cases hc
  have hca : l[a] = c := by rw [List.drop_eq_getElem_cons hal] at hc; injection hc
  have hx : (bs l).extract a (a + 1) = bs [c] := by rw [ext_take, hc]; rfl
  have hw : wrap64 (c.toNat : Int) = (c.toNat : Int) := by have := c.toNat_lt; unfold wrap64; omega
  have b0 : YtonnegkpjmhomaaGreatDoorW.PrintWords.bt (bs [58, 59]) 0 = 58 := by decide
  have b1 : YtonnegkpjmhomaaGreatDoorW.PrintWords.bt (bs [58, 59]) 1 = 59 := by decide
  have hs : (bs [58, 59]).size = 2 := by decide
  have w0 : wrap64 (0 + 1) = 1 := by unfold wrap64; omega
  have w1 : wrap64 (1 + 1) = 2 := by unfold wrap64; omega
  obtain ⟨k, rfl⟩ : ∃ m, k = m + 4 := ⟨k - 4, by omega⟩
  rw [spoondriftref05_Cut.l2, hs, bs_size, bt_bs l a hal, hca, wr1 a (by omega), b0, if_pos (by decide), if_pos (by decide), if_pos (by omega), if_pos (by omega)]
  by_cases h58 : c = 58
  · subst h58
    rw [if_pos (by decide), if_pos (by omega), if_pos (by omega), if_pos (by decide), Int.toNat_natCast, Int.toNat_natCast, hx, hw]
  · rw [if_neg (fun h => h58 (u8_eq.1 h.symm)), w0, spoondriftref05_Cut.l2, hs, bs_size, bt_bs l a hal, hca, wr1 a (by omega), b1, if_pos (by decide), if_pos (by decide), if_pos (by omega), if_pos (by omega)]
    by_cases h59 : c = 59
    · subst h59
      rw [if_pos (by decide), if_pos (by omega), if_pos (by omega), if_pos (by decide), Int.toNat_natCast, Int.toNat_natCast, hx, hw]
    · rw [if_neg (fun h => h59 (u8_eq.1 h.symm)), w1, spoondriftref05_Cut.l2, hs, if_neg (by decide), if_neg (by simp [h58, h59])]
theorem Cut_eq (l : List UInt8) (hl : l.length ≤ 1000000) (a : Nat) (ha : a < l.length) (k : Nat) (hk : 30 ≤ k) :
    spoondriftref05_Cut.f k (bs l) a 3 (bs [58, 59]) = some ((a : Int), ((cutR 3 [58, 59] a (l.drop a)).1 : Int), bs (cutR 3 [58, 59] a (l.drop a)).2.1, (cutR 3 [58, 59] a (l.drop a)).2.2) := by
  obtain ⟨c, r, hc⟩ : ∃ c r, l.drop a = c :: r := ⟨l[a], l.drop (a + 1), List.drop_eq_getElem_cons ha⟩
  have hca : l[a] = c := by rw [List.drop_eq_getElem_cons ha] at hc; injection hc
  unfold spoondriftref05_Cut.f
  rw [bs_size, if_pos (by omega), if_pos (by omega), bt_bs l a ha, hca, letter_f, Option.bind_some, hc, cutR_cons]
  by_cases h1 : isL c = true
  · rw [h1, if_pos rfl, if_pos rfl]
    have h := cut_word l hl a (by omega) 8 0 k (by omega) (by omega) (Nat.zero_le _)
    rw [hc] at h
    exact h
  · rw [if_neg h1, if_neg h1, digit_f, Option.bind_some]
    by_cases h2 : isD c = true
    · rw [h2, if_pos rfl, if_pos rfl]
      exact cut_num l hl a c r hc h2 k (by omega)
    · rw [if_neg h2, if_neg h2]
      have h := cut_sign l hl a c r hc k (by omega)
      have h : spoondriftref05_Cut.l2 k (bs l) a (bs [58, 59]) 0 a 0 ⟨#[]⟩ = _ := h
      rw [h]
      by_cases h3 : List.contains [58, 59] c = true
      · rw [if_pos h3, if_pos h3]
      · rw [if_neg h3, if_neg h3]; rfl
end Go.Proofs.YtonnegkpjmhomaaGreatDoor
end
section
set_option linter.all false
namespace Go.Proofs.YtonnegkpjmhomaaGreatDoor
open Go.RowKit Go.Proofs.YtonnegkpjmhomaaGreatDoorPR
def rdC (l : List UInt8) (r : Rr) : Array Value := #[.string (bs l), .int .i64 3, .string (bs [58, 59]), .int .i64 r.at_, .int .i64 r.at_, .int .i64 r.kind, .string (bs r.text), .int .i64 r.wrong, .bool r.none]
section
variable {w : World} {g : Nat} {t : TypeId}
theorem Blk.cells9 {a b c d e f h i j : Value} (H : Blk w g t #[a, b, c, d, e, f, h, i, j]) : w.cell? ⟨g, 0, none⟩ = some a ∧ w.cell? ⟨g, 1, none⟩ = some b ∧ w.cell? ⟨g, 2, none⟩ = some c ∧ w.cell? ⟨g, 3, none⟩ = some d ∧ w.cell? ⟨g, 4, none⟩ = some e ∧ w.cell? ⟨g, 5, none⟩ = some f ∧ w.cell? ⟨g, 6, none⟩ = some h ∧ w.cell? ⟨g, 7, none⟩ = some i ∧ w.cell? ⟨g, 8, none⟩ = some j ∧ ∀ i, w.frozen? ⟨g, i, none⟩ = false :=
  ⟨H.cell 0, H.cell 1, H.cell 2, H.cell 3, H.cell 4, H.cell 5, H.cell 6, H.cell 7, H.cell 8, H.frozen⟩
theorem Blk.put9 {a b c d e f h i j a' b' c' d' e' f' h' i' j' : Value} (H : Blk w g t #[a, b, c, d, e, f, h, i, j]) :
    Blk (((((((((w.setCell ⟨g, 0, none⟩ a').setCell ⟨g, 1, none⟩ b').setCell ⟨g, 2, none⟩ c').setCell ⟨g, 3, none⟩ d').setCell ⟨g, 4, none⟩ e').setCell ⟨g, 5, none⟩ f').setCell ⟨g, 6, none⟩ h').setCell ⟨g, 7, none⟩ i').setCell ⟨g, 8, none⟩ j') g t #[a', b', c', d', e', f', h', i', j'] :=
  by
    have h0 : Blk (w.setCell ⟨g, 0, none⟩ a') g t #[a', b, c, d, e, f, h, i, j] := H.set_ 0 a'
    have h1 : Blk ((w.setCell ⟨g, 0, none⟩ a').setCell ⟨g, 1, none⟩ b') g t #[a', b', c, d, e, f, h, i, j] := h0.set_ 1 b'
    have h2 : Blk (((w.setCell ⟨g, 0, none⟩ a').setCell ⟨g, 1, none⟩ b').setCell ⟨g, 2, none⟩ c') g t #[a', b', c', d, e, f, h, i, j] := h1.set_ 2 c'
    have h3 : Blk ((((w.setCell ⟨g, 0, none⟩ a').setCell ⟨g, 1, none⟩ b').setCell ⟨g, 2, none⟩ c').setCell ⟨g, 3, none⟩ d') g t #[a', b', c', d', e, f, h, i, j] := h2.set_ 3 d'
    have h4 : Blk (((((w.setCell ⟨g, 0, none⟩ a').setCell ⟨g, 1, none⟩ b').setCell ⟨g, 2, none⟩ c').setCell ⟨g, 3, none⟩ d').setCell ⟨g, 4, none⟩ e') g t #[a', b', c', d', e', f, h, i, j] := h3.set_ 4 e'
    have h5 : Blk ((((((w.setCell ⟨g, 0, none⟩ a').setCell ⟨g, 1, none⟩ b').setCell ⟨g, 2, none⟩ c').setCell ⟨g, 3, none⟩ d').setCell ⟨g, 4, none⟩ e').setCell ⟨g, 5, none⟩ f') g t #[a', b', c', d', e', f', h, i, j] := h4.set_ 5 f'
    have h6 : Blk (((((((w.setCell ⟨g, 0, none⟩ a').setCell ⟨g, 1, none⟩ b').setCell ⟨g, 2, none⟩ c').setCell ⟨g, 3, none⟩ d').setCell ⟨g, 4, none⟩ e').setCell ⟨g, 5, none⟩ f').setCell ⟨g, 6, none⟩ h') g t #[a', b', c', d', e', f', h', i, j] := h5.set_ 6 h'
    have h7 : Blk ((((((((w.setCell ⟨g, 0, none⟩ a').setCell ⟨g, 1, none⟩ b').setCell ⟨g, 2, none⟩ c').setCell ⟨g, 3, none⟩ d').setCell ⟨g, 4, none⟩ e').setCell ⟨g, 5, none⟩ f').setCell ⟨g, 6, none⟩ h').setCell ⟨g, 7, none⟩ i') g t #[a', b', c', d', e', f', h', i', j] := h6.set_ 7 i'
    have h8 : Blk (((((((((w.setCell ⟨g, 0, none⟩ a').setCell ⟨g, 1, none⟩ b').setCell ⟨g, 2, none⟩ c').setCell ⟨g, 3, none⟩ d').setCell ⟨g, 4, none⟩ e').setCell ⟨g, 5, none⟩ f').setCell ⟨g, 6, none⟩ h').setCell ⟨g, 7, none⟩ i').setCell ⟨g, 8, none⟩ j') g t #[a', b', c', d', e', f', h', i', j'] := h7.set_ 8 j'
    exact h8
end
theorem grown_put9 (w : World) (g : Nat) (a' b' c' d' e' f' h' i' j' : Value) :
    w.grownBy (((((((((w.setCell ⟨g, 0, none⟩ a').setCell ⟨g, 1, none⟩ b').setCell ⟨g, 2, none⟩ c').setCell ⟨g, 3, none⟩ d').setCell ⟨g, 4, none⟩ e').setCell ⟨g, 5, none⟩ f').setCell ⟨g, 6, none⟩ h').setCell ⟨g, 7, none⟩ i').setCell ⟨g, 8, none⟩ j') (some g) :=
  by
    repeat (with_reducible refine grown_set ?_ _ _)
    exact ⟨rfl, rfl, rfl, Nat.le_refl _, fun _ _ _ => rfl⟩
theorem refLayout_calls (l : List UInt8) (hl : l.length ≤ 1000000) (i : Nat) (hi : i ≤ l.length) (w : World) :
    Calls Tryz.prog 149 #[.string (bs l), .int .i64 i] w fun e w' => e = .returned (.int .i64 ((i + lay false (l.drop i) : Nat) : Int)) ∧ Below w.heap.size w w' :=
  (spoondriftref05_Layout.calls (2 * l.length + 2) (bs l) i _ w (Layout_eq l hl i _ hi (Nat.le_refl _))).mono fun _ _ ⟨he, hd⟩ => ⟨he, hd.below⟩
theorem refCut_calls (l : List UInt8) (hl : l.length ≤ 1000000) (a : Nat) (ha : a < l.length) (w : World) :
    Calls Tryz.prog 150 #[.string (bs l), .int .i64 a, .int .i64 3, .string (bs [58, 59])] w fun e w' => e = .returned (.tuple #[.agg #[.int .i64 a, .int .i64 (cutR 3 [58, 59] a (l.drop a)).1, .string (bs (cutR 3 [58, 59] a (l.drop a)).2.1)], .int .i64 (cutR 3 [58, 59] a (l.drop a)).2.2]) ∧ Below w.heap.size w w' :=
  spoondriftref05_Cut.calls 30 (bs l) a 3 (bs [58, 59]) _ _ _ _ w (Cut_eq l hl a ha 30 (Nat.le_refl _))
set_option maxRecDepth 100000 in
set_option maxHeartbeats 4000000 in
theorem refNext_any (l : List UInt8) (hl : l.length ≤ 1000000) (x : Nat) (tx : List UInt8) (hr : x + tx.length ≤ l.length) (q0 q1 q2 : Int) (q3 : Bool) (w : World) :
    Calls Tryz.prog 106 #[.agg #[.string (bs l), .int .i64 3, .string (bs [58, 59]), .int .i64 x, .int .i64 q0, .int .i64 q1, .string (bs tx), .int .i64 q2, .bool q3]] w fun e w' => e = .returned (.agg (rdC l (readAt 3 [58, 59] l (x + tx.length)))) ∧ Below w.heap.size w w' := by
  have hsz : (bs l).size = l.length := bs_size l
  have htz : (bs tx).size = tx.length := bs_size tx
  have HL := Lib.hid (refLayout_calls l hl (x + tx.length) hr)
  have hle := lay_le false (l.drop (x + tx.length))
  rw [List.length_drop] at hle
  have Hr : Hid (readAt 3 [58, 59] l (x + tx.length) = if x + tx.length + lay false (l.drop (x + tx.length)) = l.length then ⟨x + tx.length + lay false (l.drop (x + tx.length)), 0, [], -1, true⟩ else ⟨x + tx.length + lay false (l.drop (x + tx.length)), (cutR 3 [58, 59] (x + tx.length + lay false (l.drop (x + tx.length))) (l.drop (x + tx.length + lay false (l.drop (x + tx.length))))).1, (cutR 3 [58, 59] (x + tx.length + lay false (l.drop (x + tx.length))) (l.drop (x + tx.length + lay false (l.drop (x + tx.length))))).2.1, (cutR 3 [58, 59] (x + tx.length + lay false (l.drop (x + tx.length))) (l.drop (x + tx.length + lay false (l.drop (x + tx.length))))).2.2, false⟩) := rfl
  rw [Hr.out]
  have hil : x + tx.length + lay false (l.drop (x + tx.length)) ≤ l.length := by omega
  clear hle Hr
  generalize hi : x + tx.length + lay false (l.drop (x + tx.length)) = i at *
  have hx0 : (0 : Int) ≤ (x : Int) + (tx.length : Int) := by omega
  have hx1 : (x : Int) + (tx.length : Int) ≤ 1000000 := by omega
  have hx2 : (x : Int) ≤ 1000000 := by omega
  have hx3 : (tx.length : Int) ≤ 1000000 := by omega
  rw [show ((x + tx.length : Nat) : Int) = (x : Int) + (tx.length : Int) by omega] at HL
  clear hi
  by_cases he : i = l.length
  · rw [if_pos he]
    subst he
    unfold rdC
    go_enter Tryz.func106, Tryz.ntmps106
    go_wp2_with fail
    refine (HL.out _).mono ?_
    rintro e w1 ⟨rfl, hb1⟩
    have b1 : Blk w1 w.heap.size 153 #[.string (bs l), .int .i64 3, .string (bs [58, 59]), .int .i64 x, .int .i64 q0, .int .i64 q1, .string (bs tx), .int .i64 q2, .bool q3] := ((Blk.new w _ _).alloc _).below hb1 (by simp; omega)
    have b2 : Blk w1 (w.heap.size + 1) 153 #[.string ⟨#[]⟩, .int .i64 0, .string ⟨#[]⟩, .int .i64 0, .int .i64 0, .int .i64 0, .string ⟨#[]⟩, .int .i64 0, .bool false] := Blk.below (Blk.at_ (w.alloc (.cells #[.string (bs l), .int .i64 3, .string (bs [58, 59]), .int .i64 x, .int .i64 q0, .int .i64 q1, .string (bs tx), .int .i64 q2, .bool q3] 153)) 153 #[.string ⟨#[]⟩, .int .i64 0, .string ⟨#[]⟩, .int .i64 0, .int .i64 0, .int .i64 0, .string ⟨#[]⟩, .int .i64 0, .bool false] (n := w.heap.size + 1) (by simp)) hb1 (by simp)
    have hW : Below w.heap.size w w1 := bt hb1 (below2 _ _ _) (by simp; omega)
    clear hb1
    obtain ⟨x0, x1, x2, x3, x4, x5, x6, x7, x8, xf⟩ := b1.cells9
    obtain ⟨y0, y1, y2, y3, y4, y5, y6, y7, y8, yf⟩ := b2.cells9
    have hne : w.heap.size ≠ w.heap.size + 1 := by omega
    go_wp2_with fail
    refine bodyPost_ret (v := .agg (rdC l ⟨l.length, 0, [], -1, true⟩)) (by simp [rdC, results, Tryz.results106, go_sem, y0, y1, y2, y3, y4, y5, y6, y7, y8]; rfl) rfl ⟨rfl, ?_⟩
    repeat (with_reducible refine Below.setCell ?_ ?_ _)
    all_goals first | exact hW | (dsimp only; omega)
  · rw [if_neg he]
    have HC := Lib.hid (refCut_calls l hl i (by omega))
    generalize cutR 3 [58, 59] i (l.drop i) = r at *
    obtain ⟨kd, tt, wr⟩ := r
    dsimp only at HC ⊢
    have hne2 : ((i : Int) == (l.length : Int)) = false := by rw [beq_eq_false_iff_ne]; omega
    have hne3 : (i == l.length) = false := by rw [beq_eq_false_iff_ne]; exact he
    unfold rdC
    go_enter Tryz.func106, Tryz.ntmps106
    go_wp2_with fail
    refine (HL.out _).mono ?_
    rintro e w1 ⟨rfl, hb1⟩
    have b1 : Blk w1 w.heap.size 153 #[.string (bs l), .int .i64 3, .string (bs [58, 59]), .int .i64 x, .int .i64 q0, .int .i64 q1, .string (bs tx), .int .i64 q2, .bool q3] := ((Blk.new w _ _).alloc _).below hb1 (by simp; omega)
    have b2 : Blk w1 (w.heap.size + 1) 153 #[.string ⟨#[]⟩, .int .i64 0, .string ⟨#[]⟩, .int .i64 0, .int .i64 0, .int .i64 0, .string ⟨#[]⟩, .int .i64 0, .bool false] := Blk.below (Blk.at_ (w.alloc (.cells #[.string (bs l), .int .i64 3, .string (bs [58, 59]), .int .i64 x, .int .i64 q0, .int .i64 q1, .string (bs tx), .int .i64 q2, .bool q3] 153)) 153 #[.string ⟨#[]⟩, .int .i64 0, .string ⟨#[]⟩, .int .i64 0, .int .i64 0, .int .i64 0, .string ⟨#[]⟩, .int .i64 0, .bool false] (n := w.heap.size + 1) (by simp)) hb1 (by simp)
    have hW : Below w.heap.size w w1 := bt hb1 (below2 _ _ _) (by simp; omega)
    clear hb1
    obtain ⟨x0, x1, x2, x3, x4, x5, x6, x7, x8, xf⟩ := b1.cells9
    obtain ⟨y0, y1, y2, y3, y4, y5, y6, y7, y8, yf⟩ := b2.cells9
    have hne : w.heap.size ≠ w.heap.size + 1 := by omega
    go_wp2_with fail
    refine (HC.out _).mono ?_
    rintro e w2 ⟨rfl, hb2⟩
    have hz2 := hb2.size
    have HB2 := Lib.hid hb2
    have hs1 : Below w.heap.size w w2 := by
      refine bt hb2 ?_ ?_
      · repeat (with_reducible refine Below.setCell ?_ ?_ _)
        all_goals first | exact hW | (dsimp only; omega)
      · have := hW.size; simp; omega
    have c1 : Blk w2 w.heap.size 153 #[.string (bs l), .int .i64 3, .string (bs [58, 59]), .int .i64 i, .int .i64 i, .int .i64 0, .string ⟨#[]⟩, .int .i64 (-1), .bool false] := by
      refine Blk.below ?_ hb2 ?_
      · have s1 := (((((b1.set_ 3 (.int .i64 i)).set_ 4 (.int .i64 i)).set_ 5 (.int .i64 0)).set_ 6 (.string ⟨#[]⟩)).set_ 7 (.int .i64 (-1))).set_ 8 (.bool false)
        exact s1
      · have := b1.lt; simp; omega
    have c2 : Blk w2 (w.heap.size + 1) 153 #[.string ⟨#[]⟩, .int .i64 0, .string ⟨#[]⟩, .int .i64 0, .int .i64 0, .int .i64 0, .string ⟨#[]⟩, .int .i64 0, .bool false] := by
      refine Blk.below ?_ hb2 ?_
      · have s1 := (((((b2.far (p := ⟨w.heap.size, 3, none⟩) hne.symm (.int .i64 i)).far (p := ⟨w.heap.size, 4, none⟩) hne.symm (.int .i64 i)).far (p := ⟨w.heap.size, 5, none⟩) hne.symm (.int .i64 0)).far (p := ⟨w.heap.size, 6, none⟩) hne.symm (.string ⟨#[]⟩)).far (p := ⟨w.heap.size, 7, none⟩) hne.symm (.int .i64 (-1))).far (p := ⟨w.heap.size, 8, none⟩) hne.symm (.bool false)
        exact s1
      · have := b2.lt; simp; omega
    clear x0 x1 x2 x3 x4 x5 x6 x7 x8 xf y0 y1 y2 y3 y4 y5 y6 y7 y8 yf b1 b2 hb2
    obtain ⟨x0, x1, x2, x3, x4, x5, x6, x7, x8, xf⟩ := c1.cells9
    obtain ⟨y0, y1, y2, y3, y4, y5, y6, y7, y8, yf⟩ := c2.cells9
    clear HB2 hW
    go_wp2_with fail
    refine bodyPost_ret (v := .agg (rdC l ⟨i, kd, tt, wr, false⟩)) (by simp [rdC, results, Tryz.results106, go_sem, y0, y1, y2, y3, y4, y5, y6, y7, y8]) rfl ⟨rfl, ?_⟩
    repeat (with_reducible refine Below.setCell ?_ ?_ _)
    all_goals first | exact hs1 | (dsimp only; omega)
theorem refNext_calls (l : List UInt8) (hl : l.length ≤ 1000000) (r : Rr) (hr : r.at_ + r.text.length ≤ l.length) (w : World) :
    Calls Tryz.prog 106 #[.agg (rdC l r)] w fun e w' => e = .returned (.agg (rdC l (readAt 3 [58, 59] l (r.at_ + r.text.length)))) ∧ Below w.heap.size w w' :=
  refNext_any l hl r.at_ r.text hr _ _ _ _ w
set_option maxRecDepth 100000 in
set_option maxHeartbeats 1000000 in
theorem refRead_calls (l : List UInt8) (hl : l.length ≤ 1000000) (w : World) :
    Calls Tryz.prog 101 #[.string (bs l), .int .i64 3, .string (bs [58, 59])] w fun e w' => e = .returned (.agg (rdC l (readAt 3 [58, 59] l 0))) ∧ Below w.heap.size w w' := by
  have HN := Lib.hid (refNext_any l hl 0 [] (by simp) 0 0 0 false)
  simp only [List.length_nil, Nat.add_zero] at HN
  generalize readAt 3 [58, 59] l 0 = r at *
  unfold rdC at HN ⊢
  go_enter Tryz.func101, Tryz.ntmps101
  go_wp2_with fail
  refine (HN.out _).mono ?_
  rintro e w1 ⟨rfl, hb1⟩
  have b2 : Blk w1 w.heap.size 153 #[.string ⟨#[]⟩, .int .i64 0, .string ⟨#[]⟩, .int .i64 0, .int .i64 0, .int .i64 0, .string ⟨#[]⟩, .int .i64 0, .bool false] := ((Blk.new w _ _).alloc _).below hb1 (by simp; omega)
  obtain ⟨y0, y1, y2, y3, y4, y5, y6, y7, y8, yf⟩ := b2.cells9
  have hW : Below w.heap.size w w1 := bt hb1 (below2 _ _ _) (by simp; omega)
  clear hb1
  go_wp2_with fail
  refine bodyPost_ret (v := .agg #[.string (bs l), .int .i64 3, .string (bs [58, 59]), .int .i64 r.at_, .int .i64 r.at_, .int .i64 r.kind, .string (bs r.text), .int .i64 r.wrong, .bool r.none]) (by simp [results, Tryz.results101, go_sem, y0, y1, y2, y3, y4, y5, y6, y7, y8]) rfl ⟨rfl, ?_⟩
  repeat (with_reducible refine Below.setCell ?_ ?_ _)
  all_goals first | exact hW | (dsimp only; omega)
theorem own_row_lt {w : World} {base size n : Nat} {e : TypeId} {v : Value} {xs : List Value} (h : w.ownsRow base e size v n xs) {k : Nat} (hk : v.ownBlock = some k) : base ≤ k := by
  rcases h.2 with ⟨rfl, _⟩ | ⟨g, cap, cur, rfl, hb, _⟩
  · simp [Value.ownBlock] at hk
  · have e2 : g = k := by simpa [Value.ownBlock] using hk
    omega
theorem infoRTok : (Tryz.prog.info? 104).map (fun i => (i.zero, i.size, i.bytes)) = some (some (.agg #[.int .i64 0, .int .i64 0, .string ⟨#[]⟩]), 3, 32) := by kernel_rfl
def TkPost (l : List UInt8) (t : TypeId) (w : World) (e : Ending) (w' : World) : Prop :=
  ∃ v, e = .returned (.tuple #[v, .int .i64 (sTokens l).2.1, .int .i64 (sTokens l).2.2]) ∧ w'.ownsRow w.heap.size t 3 v (sTokens l).1.length (toksC (sTokens l).1) ∧ Below w.heap.size w w'
set_option maxRecDepth 100000 in
set_option maxHeartbeats 8000000 in
theorem refTokens_calls (l : List UInt8) (hl : l.length ≤ 1000000) (w : World) :
    Calls Tryz.prog 60 #[.string (bs l)] w (TkPost l 104 w) := by
  have hsz : (bs l).size = l.length := bs_size l
  by_cases hlong : 65536 < l.length
  · have Hs : Hid (sTokens l = ([], 0, 11)) := by show _ = _; unfold sTokens; rw [if_pos hlong]
    go_enter Tryz.func60, Tryz.ntmps60
    go_wp2_with fail
    go_ret3
    refine ⟨_, by rw [Hs.out]; rfl, ?_, Below.refl _ _⟩
    rw [Hs.out]
    exact World.ownsRow_nil _ _ _ _
  · have Hs : Hid (sTokens l = if 0 ≤ wrongP (partsP l) then ([], wrongP (partsP l), 4) else (partsP l, 0, 0)) := by show _ = _; unfold sTokens; rw [if_neg hlong]
    have HR := Lib.hid (refRead_calls l hl)
    have HN := Lib.hid (refNext_calls l hl)
    have hpl : (partsP l).length ≤ 1000000 := Nat.le_trans (partsN_len _ _ _) hl
    have hL0 := left_start l
    obtain ⟨i0, hinf, hz0, hz1, hz2⟩ := info_parts infoRTok
    unfold rdC at HR HN
    generalize partsP l = ps at *
    go_enter Tryz.func60, Tryz.ntmps60
    go_wp2_with fail
    refine (HR.out _).mono ?_
    rintro e w1 ⟨rfl, hb1⟩
    go_wp2_with fail
    have hx := Blk.new w1 153 (rdC l (readAt 3 [58, 59] l 0))
    have hW := hb1.alloc hb1.size (.cells (rdC l (readAt 3 [58, 59] l 0)) 153)
    have hN := hb1.size
    unfold rdC at hx hW
    go_loopg [5, 6] ps.length (fun gk v s6 wr => ∃ (N pos : Nat) (pre q : List Part), q.length = gk ∧ s6 = .pointer (some ⟨N, 0, none⟩) ∧ ps = pre ++ q ∧ wrongP pre < 0 ∧ Left l pos q ∧ w.heap.size ≤ N ∧ Blk wr N 153 (rdC l (readAt 3 [58, 59] l pos)) ∧ wr.ownsRow w.heap.size 104 3 v pre.length (toksC pre) ∧ Below w.heap.size w wr)
    case atStart => exact ⟨w1.heap.size, 0, [], ps, rfl, rfl, rfl, by decide, hL0, hN, hx, World.ownsRow_nil _ _ _ _, hW⟩
    case round =>
      clear hx hW hN hL0 hb1
      obtain ⟨N, pos, pre, q, hq, rfl, hps, hwp, hL, hN, hx, hrow, hW⟩ := hrel
      have Hps := Lib.hid hps
      clear hps
      obtain ⟨A, c, rfl⟩ := own_form hrow
      unfold rdC at hx
      rcases left_look hL with ⟨rfl, hr⟩ | ⟨p, q', x, rfl, hr, hpa, hxt, _, hn, _⟩
      · rw [hr] at hx
        have Hpre : Hid (ps = pre) := by show _ = _; rw [Hps.out]; simp
        obtain ⟨y0, y1, y2, y3, y4, y5, y6, y7, y8, yf⟩ := hx.cells9
        clear hr
        go_wp2_with fail
        go_ret3
        have hwp2 : ¬ 0 ≤ wrongP ps := by rw [Hpre.out]; omega
        refine ⟨_, by rw [Hs.out, if_neg hwp2]; rfl, ?_, hW⟩
        rw [Hs.out, if_neg hwp2, Hpre.out]
        exact hrow
      · rw [hr] at hx
        clear hr
        dsimp only at hx
        obtain ⟨y0, y1, y2, y3, y4, y5, y6, y7, y8, yf⟩ := hx.cells9
        by_cases hw : 0 ≤ p.wrong
        · have hwr : wrongP ps = p.wrong := by
            rw [Hps.out]
            have h2 : ∀ (a : List Part), wrongP a < 0 → wrongP (a ++ p :: q') = p.wrong := by
              intro a
              induction a with
              | nil => intro _; simp only [List.nil_append, wrongP]; rw [if_pos hw]
              | cons b a ih =>
                intro h
                rw [List.cons_append, wrongP]
                unfold wrongP at h
                by_cases hb : 0 ≤ b.wrong
                · rw [if_pos hb] at h; omega
                · rw [if_neg hb] at h ⊢; exact ih h
            exact h2 pre hwp
          have Hwr := Lib.hid hwr
          clear hwr
          go_wp2_with fail
          go_quiet (fail)
          go_wp2_with fail
          go_ret3
          refine ⟨_, by rw [Hs.out, if_pos (by rw [Hwr.out]; exact hw), Hwr.out]; rfl, ?_, belowN hW _⟩
          rw [Hs.out, if_pos (by rw [Hwr.out]; exact hw)]
          exact World.ownsRow_nil _ _ _ _
        · have hL2 := hn (by omega)
          obtain rfl := hxt (by omega)
          have hp2 : p.at_ + p.text.length ≤ l.length := hL2.choose_spec.2.1
          have hprl : pre.length + 1 ≤ 1000001 := by have := congrArg List.length Hps.out; rw [List.length_append] at this; omega
          obtain ⟨gk', rfl⟩ : ∃ m, gk = m + 1 := ⟨gk - 1, by simp at hq; omega⟩
          have hq' : q'.length = gk' := by simpa using hq
          have Hq' := Lib.hid hq'
          have HL2 := Lib.hid hL2
          have Hwp := Lib.hid hwp
          have hsz2 := hW.size
          clear hq hq' hL hL2 hwp hn hxt
          go_wp2_with (at_builtin; refine wpList_append_own _ rfl _ _ 100 rfl w.heap.size 104 i0 _ 3 32 Tryz.underlying100 hinf hz0 hz1 hz2 rfl (by decide) _ _ _ rfl (own_below hrow (below1 wr (.cells #[.int .i64 p.at_, .int .i64 p.kind, .string (bs p.text)] 104)) (Nat.le_refl _)) ⟨wr.heap.size, 0, none⟩ 1 1 [.int .i64 p.at_, .int .i64 p.kind, .string (bs p.text)] rfl rfl (row_new _ _ _) (by simp [Value.oneCell']) (by unfold maxLen; omega) (by omega) (by simp; omega) ?_; intro v' w5 hown' hgrow _; obtain ⟨g', cap', rfl⟩ := ownsRow_succ hown'; have hx5 := (hx.alloc (.cells #[.int .i64 p.at_, .int .i64 p.kind, .string (bs p.text)] 104)).grown hgrow (own_blk_ne hrow hx (by decide)).symm; have hW5 := (hW.alloc hsz2 (.cells #[.int .i64 p.at_, .int .i64 p.kind, .string (bs p.text)] 104)).grown hgrow (by simp; omega) (fun k e => own_row_lt hrow e); clear y0 y1 y2 y3 y4 y5 y6 y7 y8 yf; obtain ⟨y0, y1, y2, y3, y4, y5, y6, y7, y8, yf⟩ := hx5.cells9)
          refine (HN.out ⟨p.at_, p.kind, p.text, p.wrong, false⟩ hp2 _).mono ?_
          rintro e w6 ⟨rfl, hb6⟩
          have c1 : Blk w6 w5.heap.size 153 #[.string (bs l), .int .i64 3, .string (bs [58, 59]), .int .i64 p.at_, .int .i64 p.at_, .int .i64 p.kind, .string (bs p.text), .int .i64 p.wrong, .bool false] := (Blk.new w5 _ _).below hb6 (by simp)
          have hrow6 := own_below (own_below hown' (below1 w5 (.cells #[.string (bs l), .int .i64 3, .string (bs [58, 59]), .int .i64 p.at_, .int .i64 p.at_, .int .i64 p.kind, .string (bs p.text), .int .i64 p.wrong, .bool false] 153)) (Nat.le_refl _)) hb6 (Nat.le_refl _)
          have hz5 := hW5.size
          have hW6 := bt hb6 (hW5.alloc hz5 (.cells #[.string (bs l), .int .i64 3, .string (bs [58, 59]), .int .i64 p.at_, .int .i64 p.at_, .int .i64 p.kind, .string (bs p.text), .int .i64 p.wrong, .bool false] 153)) (by simp; omega)
          clear y0 y1 y2 y3 y4 y5 y6 y7 y8 yf hb6 hown' hgrow hx5 hx hrow hW
          obtain ⟨y0, y1, y2, y3, y4, y5, y6, y7, y8, yf⟩ := c1.cells9
          dsimp only
          go_wp2_with fail
          clear y0 y1 y2 y3 y4 y5 y6 y7 y8 yf
          have Hps2 : Hid (ps = (pre ++ [p]) ++ q') := by show _ = _; rw [Hps.out]; simp
          have Hwp2 : Hid (wrongP (pre ++ [p]) < 0) := by show _ < _; rw [wrongP_snoc Hwp.out, if_neg (by omega)]; decide
          go_roundg gk'
          case measure => omega
          case rel =>
            refine ⟨w5.heap.size, p.at_ + p.text.length, pre ++ [p], q', Hq'.out, rfl, Hps2.out, Hwp2.out, HL2.out, hz5, c1.put9, ?_, ?_⟩
            · rw [toksC_snoc, List.length_append]
              exact hrow6.kept (grown_put9 _ _ _ _ _ _ _ _ _ _ _) (.inr (own_blk_ne hrow6 c1 (by decide)))
            · repeat (with_reducible refine Below.setCell ?_ ?_ _)
              all_goals first | exact hW6 | (dsimp only; omega)
end Go.Proofs.YtonnegkpjmhomaaGreatDoor
end
section
set_option linter.all false
namespace Go.Proofs.YtonnegkpjmhomaaGreatDoor
open Go.RowKit
theorem long_yes (l : List UInt8) (h : (2000 < l.length ∧ l.length ≤ 65536) ∨ 65546 < l.length) (hl : l.length ≤ 140737488351232) (w : World) :
    Calls Tryz.prog 53 #[.string (bs l)] w fun e w' => e = .returned (.bool true) ∧ w = w' := by
  have hsz : (bs l).size = l.length := bs_size l
  rcases h with ⟨h1, h2⟩ | h1
  · have d1 : decide ((2000 : Int) < (l.length : Int)) = true := decide_eq_true (by omega)
    have d2 : decide ((l.length : Int) ≤ 65536) = true := decide_eq_true (by omega)
    go_enter Tryz.func53, Tryz.ntmps53
    go_wp2_with fail
    go_ret
    exact ⟨rfl, rfl⟩
  · have d1 : decide ((2000 : Int) < (l.length : Int)) = true := decide_eq_true (by omega)
    have d2 : decide ((l.length : Int) ≤ 65536) = false := decide_eq_false (by omega)
    have d3 : decide ((65546 : Int) < (l.length : Int)) = true := decide_eq_true (by omega)
    go_enter Tryz.func53, Tryz.ntmps53
    go_wp2_with fail
    go_ret
    exact ⟨rfl, rfl⟩
theorem long_no (l : List UInt8) (h : ¬ ((2000 < l.length ∧ l.length ≤ 65536) ∨ 65546 < l.length)) (w : World) :
    Calls Tryz.prog 53 #[.string (bs l)] w fun e w' => e = .returned (.bool false) ∧ w = w' := by
  have hsz : (bs l).size = l.length := bs_size l
  by_cases h1 : l.length ≤ 2000
  · have d1 : decide ((2000 : Int) < (l.length : Int)) = false := decide_eq_false (by omega)
    have d3 : decide ((65546 : Int) < (l.length : Int)) = false := decide_eq_false (by omega)
    go_enter Tryz.func53, Tryz.ntmps53
    go_wp2_with fail
    go_ret
    exact ⟨rfl, rfl⟩
  · have d1 : decide ((2000 : Int) < (l.length : Int)) = true := decide_eq_true (by omega)
    have d2 : decide ((l.length : Int) ≤ 65536) = false := decide_eq_false (by omega)
    have d3 : decide ((65546 : Int) < (l.length : Int)) = false := decide_eq_false (by omega)
    go_enter Tryz.func53, Tryz.ntmps53
    go_wp2_with fail
    go_ret
    exact ⟨rfl, rfl⟩
set_option maxRecDepth 100000 in
set_option maxHeartbeats 2000000 in
theorem TextTokens_ok (l : List UInt8) (hl : l.length ≤ 140737488351232) (w : World) (ht : Tabs w) :
    Calls Tryz.prog 25 #[.string (bs l)] w fun e w' => e = .returned (.bool true) ∧ Below w.heap.size w w' := by
  have HA := Lib.hid awake_calls
  have HT := Lib.hid ht
  clear ht
  by_cases hlong : (2000 < l.length ∧ l.length ≤ 65536) ∨ 65546 < l.length
  · have HL := Lib.hid (long_yes l hlong hl)
    go_enter Tryz.func25, Tryz.ntmps25
    go_wp2_with fail
    refine (HL.out _).mono ?_
    rintro e w' ⟨rfl, rfl⟩
    go_wp2_with fail
    refine (HA.out _ HT.out).mono ?_
    rintro e w1 ⟨rfl, hb⟩
    go_wp2_with fail
    go_ret
    exact ⟨rfl, hb⟩
  · have HL := Lib.hid (long_no l hlong)
    have hl2 : l.length ≤ 1000000 := by omega
    have HR := Lib.hid (refTokens_calls l hl2)
    have HP := Lib.hid (Tokens_calls l hl2)
    have hps : (sTokens l).1.length ≤ 1000000 := by
      unfold sTokens
      have := partsN_len (l.length + 1) 0 l
      split
      · simp
      · split
        · simp
        · exact Nat.le_trans this hl2
    obtain ⟨⟨ps, at_, er⟩, HS⟩ : ∃ r, Hid (sTokens l = r) := ⟨_, rfl⟩
    unfold TkPost at HR
    rw [HS.out] at HR HP hps
    dsimp only at HR hps
    have hee : (er == er) = true := beq_self_eq_true er
    have haa : (at_ == at_) = true := beq_self_eq_true at_
    go_enter Tryz.func25, Tryz.ntmps25
    go_wp2_with fail
    refine (HL.out _).mono ?_
    rintro e w' ⟨rfl, rfl⟩
    go_wp2_with fail
    refine (HR.out _).mono ?_
    rintro e w1 ⟨v1, rfl, ho1, hb1⟩
    go_wp2_with fail
    refine (HP.out _).mono ?_
    rintro e w2 ⟨v2, ps2, at2, er2, rfl, hs2, ho2, hb2⟩
    injection hs2 with e1 e2
    injection e2 with e2 e3
    subst e1 e2 e3
    have ho1 := own_below ho1 hb2 (Nat.le_refl _)
    have hW := bt hb2 hb1 hb1.size
    have HE := Lib.hid (eqToks_calls ps hps _ _ v2 v1 w2 ho2 ho1)
    clear hb1 hb2
    go_wp2_with fail
    refine HE.out.mono ?_
    rintro e w3 ⟨rfl, hb3⟩
    have hW := bt hb3 hW hW.size
    go_wp2_with fail
    refine (HA.out _ (HT.out.below hW)).mono ?_
    rintro e w4 ⟨rfl, hb4⟩
    go_wp2_with fail
    go_ret
    exact ⟨rfl, bt hb4 hW hW.size⟩
end Go.Proofs.YtonnegkpjmhomaaGreatDoor
end
