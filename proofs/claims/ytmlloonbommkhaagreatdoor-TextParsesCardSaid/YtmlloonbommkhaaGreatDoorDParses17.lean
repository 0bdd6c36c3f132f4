import Derived.Test.YtmlloonbommkhaaGreatDoorProg
import Derived.Below
import Derived.Deep.Draws
import Derived.Deep.AppendLies
import Derived.Maps.AppendAt
import Derived.OwnWalk
import Derived.Laws.BytesArg
import Derived.Laws.MakeOwn
import Derived.Laws.OwnMore
import Derived.Deep.OwnRows
import Derived.Tactics
import Derived.Lib.ConvBytes
import Derived.Laws.Slices
import Derived.WalkKit
import Derived.KernelRfl
import Derived.RowKit3
import Derived.Deep.LoopGhost
import Derived.Deep.QuietTactic
import Derived.BigQuiet
import Derived.WideLaws
import Derived.Deep.DeepCutAuto
import Derived.Deep.CutBlock
import Derived.Deep.RegionHeld3
import Derived.Laws.Rows
import Derived.Lib.AppendStr
import Derived.ArgAppend
import Derived.Laws.IdiomCopy
import Derived.OrdersHeld
import Derived.Laws.BitsLemmas
import Derived.RowKit
import Derived.Laws.StructEq
import Derived.Test.YtmlloonbommkhaaGreatDoorDParses11
import Derived.Test.YtmlloonbommkhaaGreatDoorDParses13
import Derived.Test.YtmlloonbommkhaaGreatDoorDParses14
import Derived.Test.YtmlloonbommkhaaGreatDoorDParses15
import Derived.Test.YtmlloonbommkhaaGreatDoorDParses16
set_option linter.all false
section
namespace Go.Proofs.YtmlloonbommkhaaGreatDoorPR
open Go.RowKit Go.Proofs.YtmlloonbommkhaaGreatDoorW.PrintWords Go.Proofs.YtmlloonbommkhaaGreatDoorW.PrintLast Go.Proofs.YtmlloonbommkhaaGreatDoorW.PrintMore
attribute [local go_sem] max2_int min2_int max_two min_two max_three min_three max_four min_four
set_option linter.unusedVariables false
set_option linter.unusedSimpArgs false
def errW : Option Int → Value
  | none => .nilIface
  | some c => .iface 0 (.int .i64 c)
theorem errW_none : errW none = .nilIface := rfl
theorem errW_some (c : Int) : errW (some c) = .iface 0 (.int .i64 c) := rfl
end Go.Proofs.YtmlloonbommkhaaGreatDoorPR
end
section
namespace Go.Proofs.YtmlloonbommkhaaGreatDoorPR
open Go.RowKit Go.Proofs.YtmlloonbommkhaaGreatDoorW.PrintWords Go.Proofs.YtmlloonbommkhaaGreatDoorW.PrintLast Go.Proofs.YtmlloonbommkhaaGreatDoorW.PrintMore
attribute [local go_sem] max2_int min2_int max_two min_two max_three min_three max_four min_four
set_option linter.unusedVariables false
set_option linter.unusedSimpArgs false
mutual
def spoondriftref05_Layout.l0 : Nat → ByteArray → Int → Option (Int)
  | 0, _, _ => none
  | k + 1, x0, x1 => if x1 < (x0.size : Int) then (if 0 ≤ x1 then (if (bt x0 x1) = 35 then (spoondriftref05_Layout.l1 k x0 x1) else (if (bt x0 x1) = 32 then (spoondriftref05_Layout.l0 k x0 (wrap64 (x1 + 1))) else (if (bt x0 x1) = 10 then (spoondriftref05_Layout.l0 k x0 (wrap64 (x1 + 1))) else (some x1)))) else (none)) else (some x1)
def spoondriftref05_Layout.l1 : Nat → ByteArray → Int → Option (Int)
  | 0, _, _ => none
  | k + 1, x0, x1 => if x1 < (x0.size : Int) then (if 0 ≤ x1 then (if (bt x0 x1) = 10 then (spoondriftref05_Layout.l0 k x0 x1) else (spoondriftref05_Layout.l1 k x0 (wrap64 (x1 + 1)))) else (none)) else (spoondriftref05_Layout.l0 k x0 x1)
end
def spoondriftref05_Layout.f (k : Nat) (a0 : ByteArray) (a1 : Int) : Option (Int) := spoondriftref05_Layout.l0 k a0 a1
theorem spoondriftref05_Layout.mono_l : ∀ k, (∀ y0 y1, LeO (spoondriftref05_Layout.l0 k y0 y1) (spoondriftref05_Layout.l0 (k + 1) y0 y1)) ∧ (∀ y0 y1, LeO (spoondriftref05_Layout.l1 k y0 y1) (spoondriftref05_Layout.l1 (k + 1) y0 y1))
  | 0 => ⟨fun _ _ r h => by simp [spoondriftref05_Layout.l0] at h, fun _ _ r h => by simp [spoondriftref05_Layout.l1] at h⟩
  | k + 1 => by
    obtain ⟨ih0, ih1⟩ := spoondriftref05_Layout.mono_l k
    refine ⟨?_, ?_⟩
    · intro y0 y1
      unfold spoondriftref05_Layout.l0
      repeat' first
      | (with_reducible exact ih0 _ _)
      | (with_reducible exact ih1 _ _)
      | (with_reducible exact LeO.refl _)
      | (with_reducible exact LeO.none _)
      | (with_reducible refine LeO.ite ?_ ?_)
      | (with_reducible refine LeO.bind ?_ (fun _ => ?_))
      | exact ih0 _ _
      | exact ih1 _ _
      | exact LeO.none _
      | refine LeO.ite ?_ ?_
      | refine LeO.bind ?_ (fun _ => ?_)
    · intro y0 y1
      unfold spoondriftref05_Layout.l1
      repeat' first
      | (with_reducible exact ih0 _ _)
      | (with_reducible exact ih1 _ _)
      | (with_reducible exact LeO.refl _)
      | (with_reducible exact LeO.none _)
      | (with_reducible refine LeO.ite ?_ ?_)
      | (with_reducible refine LeO.bind ?_ (fun _ => ?_))
      | exact ih0 _ _
      | exact ih1 _ _
      | exact LeO.none _
      | refine LeO.ite ?_ ?_
      | refine LeO.bind ?_ (fun _ => ?_)
theorem spoondriftref05_Layout.mono : ∀ a0 a1 k, LeO (spoondriftref05_Layout.f k a0 a1) (spoondriftref05_Layout.f (k + 1) a0 a1) := by
  intro a0 a1 k
  obtain ⟨ih0, ih1⟩ := spoondriftref05_Layout.mono_l k
  unfold spoondriftref05_Layout.f
  repeat' first
      | (with_reducible exact ih0 _ _)
      | (with_reducible exact ih1 _ _)
      | (with_reducible exact LeO.refl _)
      | (with_reducible exact LeO.none _)
      | (with_reducible refine LeO.ite ?_ ?_)
      | (with_reducible refine LeO.bind ?_ (fun _ => ?_))
      | exact ih0 _ _
      | exact ih1 _ _
      | exact LeO.none _
      | refine LeO.ite ?_ ?_
      | refine LeO.bind ?_ (fun _ => ?_)
set_option maxHeartbeats 8000000 in
set_option maxRecDepth 100000 in
theorem spoondriftref05_Layout.calls (k : Nat) (a0 : ByteArray) (a1 : Int) (r : Int) (w : World) (h : spoondriftref05_Layout.f k a0 a1 = some r) :
    Calls Tryz.prog 60 #[.string a0, .int .i64 a1] w fun e w' => e = .returned (.int .i64 r) ∧ Drawn0 w w' := by
  have H : (spoondriftref05_Layout.l0 k a0 a1) = some r := h
  clear h
  have H' := Aside0.mk H
  clear H
  go_enter Tryz.func60, Tryz.ntmps60
  go_wp2
  (try simp only [Act.put, List.setIfInBounds_toArray, List.set_cons_zero, List.set_cons_succ])
  go_loopg [1] k (fun kq v1 w' => ∃ (x1_1 : Int), v1 = .int .i64 x1_1 ∧ Aside0 (spoondriftref05_Layout.l0 kq a0 x1_1 = some r) ∧ Aside0 (kq ≤ k) ∧ Drawn0 w w')
  case atStart => exact ⟨(a1), (by first | rfl | (simp; done) | (simp [*]; done)), H', ⟨Nat.le_refl _⟩, by repeat (first | exact Drawn0.refl _ | apply Drawn0.step)⟩
  case round =>
    clear H'
    try clear p2
    obtain ⟨x1_1, rfl, HA, HK1, ⟨m1, rfl⟩⟩ := hrel
    cases gk with
    | zero => exact absurd HA.out (by simp [spoondriftref05_Layout.l0])
    | succ k1 =>
      have H := HA.out
      clear HA
      simp only [spoondriftref05_Layout.l0] at H
      by_cases c3 : x1_1 < (a0.size : Int)
      · rw [if_pos c3] at H
        have c3b0 : decide (x1_1 < (a0.size : Int)) = true := decide_eq_true c3
        clear c3
        by_cases c4 : 0 ≤ x1_1
        · rw [if_pos c4] at H
          have c4b0 : decide (0 ≤ x1_1) = true := decide_eq_true c4
          clear c4
          by_cases c6 : (bt a0 x1_1) = 35
          · rw [if_pos c6] at H
            have c6b0 : ((bt a0 x1_1) == 35) = true := beq_iff_eq.mpr c6
            have c6b1 : ((bt a0 x1_1) != 35) = false := bne_eq_false_iff_eq.mpr c6
            clear c6
            have H' := Aside0.mk H
            clear H
            have p5 : 0 ≤ (x1_1 : Int) := of_decide_eq_true (by first | (with_reducible assumption) | assumption)
            have q5 : x1_1 < (a0.size : Int) := of_decide_eq_true (by first | (with_reducible assumption) | assumption)
            have hx5 := bt_at a0 x1_1
            replace p5 := eq_true p5
            replace q5 := eq_true q5
            go_wp2
            (try simp only [Act.put, List.setIfInBounds_toArray, List.set_cons_zero, List.set_cons_succ])
            go_loopg [1] k1 (fun kq v1 w' => ∃ (x1_2 : Int), v1 = .int .i64 x1_2 ∧ Aside0 (spoondriftref05_Layout.l1 kq a0 x1_2 = some r) ∧ Aside0 (kq ≤ k1) ∧ Drawn0 w w')
            case atStart => exact ⟨(x1_1), (by first | rfl | (simp; done) | (simp [*]; done)), H', ⟨Nat.le_refl _⟩, by repeat (first | exact Drawn0.refl _ | apply Drawn0.step)⟩
            case round =>
              clear H'
              try clear p2
              try clear c3
              try clear c3b0
              try clear c4
              try clear c4b0
              try clear p5
              try clear q5
              try clear hx5
              try clear c6
              try clear c6b0
              try clear c6b1
              try clear p2
              try clear p5
              try clear q5
              obtain ⟨x1_2, rfl, HA, HK2, ⟨m2, rfl⟩⟩ := hrel
              cases gk with
              | zero => exact absurd HA.out (by simp [spoondriftref05_Layout.l1])
              | succ k2 =>
                have H := HA.out
                clear HA
                simp only [spoondriftref05_Layout.l1] at H
                by_cases c7 : x1_2 < (a0.size : Int)
                · rw [if_pos c7] at H
                  have c7b0 : decide (x1_2 < (a0.size : Int)) = true := decide_eq_true c7
                  clear c7
                  by_cases c8 : 0 ≤ x1_2
                  · rw [if_pos c8] at H
                    have c8b0 : decide (0 ≤ x1_2) = true := decide_eq_true c8
                    clear c8
                    by_cases c10 : (bt a0 x1_2) = 10
                    · rw [if_pos c10] at H
                      have c10b0 : ((bt a0 x1_2) == 10) = true := beq_iff_eq.mpr c10
                      have c10b1 : ((bt a0 x1_2) != 10) = false := bne_eq_false_iff_eq.mpr c10
                      clear c10
                      have H' := Aside0.mk H
                      clear H
                      have p9 : 0 ≤ (x1_2 : Int) := of_decide_eq_true (by first | (with_reducible assumption) | assumption)
                      have q9 : x1_2 < (a0.size : Int) := of_decide_eq_true (by first | (with_reducible assumption) | assumption)
                      have hx9 := bt_at a0 x1_2
                      replace p9 := eq_true p9
                      replace q9 := eq_true q9
                      go_wp2
                      go_roundg k2
                      case measure => have := HK1.out; have := HK2.out; omega
                      case rel => exact ⟨(x1_2), (by first | rfl | (simp; done) | (simp [*]; done)), H', ⟨by have := HK1.out; have := HK2.out; omega⟩, by repeat (first | exact Drawn0.refl _ | apply Drawn0.step)⟩
                    · rw [if_neg c10] at H
                      have c10b0 : ((bt a0 x1_2) == 10) = false := beq_eq_false_iff_ne.mpr c10
                      have c10b1 : ((bt a0 x1_2) != 10) = true := bne_iff_ne.mpr c10
                      have H' := Aside0.mk H
                      clear H
                      have p9 : 0 ≤ (x1_2 : Int) := of_decide_eq_true (by first | (with_reducible assumption) | assumption)
                      have q9 : x1_2 < (a0.size : Int) := of_decide_eq_true (by first | (with_reducible assumption) | assumption)
                      have hx9 := bt_at a0 x1_2
                      replace p9 := eq_true p9
                      replace q9 := eq_true q9
                      go_wp2
                      go_roundg k2
                      case measure => have := HK1.out; have := HK2.out; omega
                      case rel => exact ⟨(wrap64 (x1_2 + 1)), (by first | rfl | (simp; done) | (simp [*]; done)), H', ⟨by have := HK1.out; have := HK2.out; omega⟩, by repeat (first | exact Drawn0.refl _ | apply Drawn0.step)⟩
                  · rw [if_neg c8] at H
                    exact absurd H (by simp)
                · rw [if_neg c7] at H
                  have c7b0 : decide (x1_2 < (a0.size : Int)) = false := decide_eq_false c7
                  clear c7
                  have H' := Aside0.mk H
                  clear H
                  go_wp2
                  go_roundg k2
                  case measure => have := HK1.out; have := HK2.out; omega
                  case rel => exact ⟨(x1_2), (by first | rfl | (simp; done) | (simp [*]; done)), H', ⟨by have := HK1.out; have := HK2.out; omega⟩, by repeat (first | exact Drawn0.refl _ | apply Drawn0.step)⟩
          · rw [if_neg c6] at H
            have c6b0 : ((bt a0 x1_1) == 35) = false := beq_eq_false_iff_ne.mpr c6
            have c6b1 : ((bt a0 x1_1) != 35) = true := bne_iff_ne.mpr c6
            by_cases c12 : (bt a0 x1_1) = 32
            · rw [if_pos c12] at H
              have c12b0 : ((bt a0 x1_1) == 32) = true := beq_iff_eq.mpr c12
              have c12b1 : ((bt a0 x1_1) != 32) = false := bne_eq_false_iff_eq.mpr c12
              clear c12
              have H' := Aside0.mk H
              clear H
              have p5 : 0 ≤ (x1_1 : Int) := of_decide_eq_true (by first | (with_reducible assumption) | assumption)
              have q5 : x1_1 < (a0.size : Int) := of_decide_eq_true (by first | (with_reducible assumption) | assumption)
              have hx5 := bt_at a0 x1_1
              replace p5 := eq_true p5
              replace q5 := eq_true q5
              have p11 : 0 ≤ (x1_1 : Int) := of_decide_eq_true (by first | (with_reducible assumption) | assumption)
              have q11 : x1_1 < (a0.size : Int) := of_decide_eq_true (by first | (with_reducible assumption) | assumption)
              have hx11 := bt_at a0 x1_1
              replace p11 := eq_true p11
              replace q11 := eq_true q11
              go_wp2
              go_roundg k1
              case measure => have := HK1.out; omega
              case rel => exact ⟨(wrap64 (x1_1 + 1)), (by first | rfl | (simp; done) | (simp [*]; done)), H', ⟨by have := HK1.out; omega⟩, by repeat (first | exact Drawn0.refl _ | apply Drawn0.step)⟩
            · rw [if_neg c12] at H
              have c12b0 : ((bt a0 x1_1) == 32) = false := beq_eq_false_iff_ne.mpr c12
              have c12b1 : ((bt a0 x1_1) != 32) = true := bne_iff_ne.mpr c12
              by_cases c14 : (bt a0 x1_1) = 10
              · rw [if_pos c14] at H
                have c14b0 : ((bt a0 x1_1) == 10) = true := beq_iff_eq.mpr c14
                have c14b1 : ((bt a0 x1_1) != 10) = false := bne_eq_false_iff_eq.mpr c14
                clear c14
                have H' := Aside0.mk H
                clear H
                have p5 : 0 ≤ (x1_1 : Int) := of_decide_eq_true (by first | (with_reducible assumption) | assumption)
                have q5 : x1_1 < (a0.size : Int) := of_decide_eq_true (by first | (with_reducible assumption) | assumption)
                have hx5 := bt_at a0 x1_1
                replace p5 := eq_true p5
                replace q5 := eq_true q5
                have p11 : 0 ≤ (x1_1 : Int) := of_decide_eq_true (by first | (with_reducible assumption) | assumption)
                have q11 : x1_1 < (a0.size : Int) := of_decide_eq_true (by first | (with_reducible assumption) | assumption)
                have hx11 := bt_at a0 x1_1
                replace p11 := eq_true p11
                replace q11 := eq_true q11
                have p13 : 0 ≤ (x1_1 : Int) := of_decide_eq_true (by first | (with_reducible assumption) | assumption)
                have q13 : x1_1 < (a0.size : Int) := of_decide_eq_true (by first | (with_reducible assumption) | assumption)
                have hx13 := bt_at a0 x1_1
                replace p13 := eq_true p13
                replace q13 := eq_true q13
                go_wp2
                go_roundg k1
                case measure => have := HK1.out; omega
                case rel => exact ⟨(wrap64 (x1_1 + 1)), (by first | rfl | (simp; done) | (simp [*]; done)), H', ⟨by have := HK1.out; omega⟩, by repeat (first | exact Drawn0.refl _ | apply Drawn0.step)⟩
              · rw [if_neg c14] at H
                have c14b0 : ((bt a0 x1_1) == 10) = false := beq_eq_false_iff_ne.mpr c14
                have c14b1 : ((bt a0 x1_1) != 10) = true := bne_iff_ne.mpr c14
                obtain rfl := Option.some.inj H
                have p5 : 0 ≤ (x1_1 : Int) := of_decide_eq_true (by first | (with_reducible assumption) | assumption)
                have q5 : x1_1 < (a0.size : Int) := of_decide_eq_true (by first | (with_reducible assumption) | assumption)
                have hx5 := bt_at a0 x1_1
                replace p5 := eq_true p5
                replace q5 := eq_true q5
                have p11 : 0 ≤ (x1_1 : Int) := of_decide_eq_true (by first | (with_reducible assumption) | assumption)
                have q11 : x1_1 < (a0.size : Int) := of_decide_eq_true (by first | (with_reducible assumption) | assumption)
                have hx11 := bt_at a0 x1_1
                replace p11 := eq_true p11
                replace q11 := eq_true q11
                have p13 : 0 ≤ (x1_1 : Int) := of_decide_eq_true (by first | (with_reducible assumption) | assumption)
                have q13 : x1_1 < (a0.size : Int) := of_decide_eq_true (by first | (with_reducible assumption) | assumption)
                have hx13 := bt_at a0 x1_1
                replace p13 := eq_true p13
                replace q13 := eq_true q13
                go_wp2
                go_ret
                exact ⟨by first | rfl | (simp; done) | (simp [*]; done), by repeat (first | exact Drawn0.refl _ | apply Drawn0.step)⟩
        · rw [if_neg c4] at H
          exact absurd H (by simp)
      · rw [if_neg c3] at H
        have c3b0 : decide (x1_1 < (a0.size : Int)) = false := decide_eq_false c3
        clear c3
        obtain rfl := Option.some.inj H
        go_wp2
        go_ret
        exact ⟨by first | rfl | (simp; done) | (simp [*]; done), by repeat (first | exact Drawn0.refl _ | apply Drawn0.step)⟩
def spoondriftref05_letter.f (a0 : Int) : Option (Bool) := if a0 ≥ 97 then (some (decide (a0 ≤ 122))) else (some false)
set_option maxHeartbeats 8000000 in
set_option maxRecDepth 100000 in
theorem spoondriftref05_letter.calls (a0 : Int) (r : Bool) (w : World) (h : spoondriftref05_letter.f a0 = some r) :
    Calls Tryz.prog 85 #[.int .u8 a0] w fun e w' => e = .returned (.bool r) ∧ Drawn0 w w' := by
  have H : (if a0 ≥ 97 then (some (decide (a0 ≤ 122))) else (some false)) = some r := h
  clear h
  by_cases c2 : a0 ≥ 97
  · rw [if_pos c2] at H
    have c2b0 : decide (97 ≤ a0) = true := decide_eq_true c2
    clear c2
    obtain rfl := Option.some.inj H
    go_enter Tryz.func85, Tryz.ntmps85
    go_wp2
    go_ret
    exact ⟨by first | rfl | (simp; done) | (simp [*]; done), by repeat (first | exact Drawn0.refl _ | apply Drawn0.step)⟩
  · rw [if_neg c2] at H
    have c2b0 : decide (97 ≤ a0) = false := decide_eq_false c2
    clear c2
    obtain rfl := Option.some.inj H
    go_enter Tryz.func85, Tryz.ntmps85
    go_wp2
    go_ret
    exact ⟨by first | rfl | (simp; done) | (simp [*]; done), by repeat (first | exact Drawn0.refl _ | apply Drawn0.step)⟩
def spoondriftref05_digit.f (a0 : Int) : Option (Bool) := if a0 ≥ 48 then (some (decide (a0 ≤ 57))) else (some false)
set_option maxHeartbeats 8000000 in
set_option maxRecDepth 100000 in
theorem spoondriftref05_digit.calls (a0 : Int) (r : Bool) (w : World) (h : spoondriftref05_digit.f a0 = some r) :
    Calls Tryz.prog 86 #[.int .u8 a0] w fun e w' => e = .returned (.bool r) ∧ Drawn0 w w' := by
  have H : (if a0 ≥ 48 then (some (decide (a0 ≤ 57))) else (some false)) = some r := h
  clear h
  by_cases c2 : a0 ≥ 48
  · rw [if_pos c2] at H
    have c2b0 : decide (48 ≤ a0) = true := decide_eq_true c2
    clear c2
    obtain rfl := Option.some.inj H
    go_enter Tryz.func86, Tryz.ntmps86
    go_wp2
    go_ret
    exact ⟨by first | rfl | (simp; done) | (simp [*]; done), by repeat (first | exact Drawn0.refl _ | apply Drawn0.step)⟩
  · rw [if_neg c2] at H
    have c2b0 : decide (48 ≤ a0) = false := decide_eq_false c2
    clear c2
    obtain rfl := Option.some.inj H
    go_enter Tryz.func86, Tryz.ntmps86
    go_wp2
    go_ret
    exact ⟨by first | rfl | (simp; done) | (simp [*]; done), by repeat (first | exact Drawn0.refl _ | apply Drawn0.step)⟩
end Go.Proofs.YtmlloonbommkhaaGreatDoorPR
end
section
namespace Go.Proofs.YtmlloonbommkhaaGreatDoorPR
open Go.RowKit Go.Proofs.YtmlloonbommkhaaGreatDoorW.PrintWords Go.Proofs.YtmlloonbommkhaaGreatDoorW.PrintLast Go.Proofs.YtmlloonbommkhaaGreatDoorW.PrintMore
attribute [local go_sem] max2_int min2_int max_two min_two max_three min_three max_four min_four
set_option linter.unusedVariables false
set_option linter.unusedSimpArgs false
mutual
def spoondriftref05_Cut.l0 : Nat → ByteArray → Int → Int → Int → Int → ByteArray → Option (Int × Int × ByteArray × Int)
  | 0, _, _, _, _, _, _ => none
  | k + 1, x0, x1, x11, x103000, x103001, x103002 => if x11 < (x0.size : Int) then (if 0 ≤ x11 then ((spoondriftref05_letter.f (bt x0 x11)).bind fun t104 => (spoondriftref05_Cut.j1 k x0 x1 x11 t104 x103000 x103001 x103002)) else (none)) else (spoondriftref05_Cut.j1 k x0 x1 x11 false x103000 x103001 x103002)
def spoondriftref05_Cut.j1 : Nat → ByteArray → Int → Int → Bool → Int → Int → ByteArray → Option (Int × Int × ByteArray × Int)
  | 0, _, _, _, _, _, _, _ => none
  | k + 1, x0, x1, x11, x31, x103000, x103001, x103002 => if x31 = true then (if (x103002.size : Int) = 8 then (some (x103000, x103001, x103002, x11)) else (if 0 ≤ x1 then (if x1 ≤ (wrap64 (x11 + 1)) then (if (wrap64 (x11 + 1)) ≤ (x0.size : Int) then (spoondriftref05_Cut.l0 k x0 x1 (wrap64 (x11 + 1)) x103000 x103001 (x0.extract (x1 : Int).toNat ((wrap64 (x11 + 1)) : Int).toNat)) else (none)) else (none)) else (none))) else (some (x103000, x103001, x103002, (-1)))
def spoondriftref05_Cut.l1 : Nat → ByteArray → Int → Int → Int → Int → Int → ByteArray → Option (Int × Int × ByteArray × Int)
  | 0, _, _, _, _, _, _, _ => none
  | k + 1, x0, x1, x2, x12, x103000, x103001, x103002 => if x12 < (x0.size : Int) then (if 0 ≤ x12 then ((spoondriftref05_digit.f (bt x0 x12)).bind fun t106 => (spoondriftref05_Cut.j3 k x0 x1 x2 x12 t106 x103000 x103001 x103002)) else (none)) else (spoondriftref05_Cut.j3 k x0 x1 x2 x12 false x103000 x103001 x103002)
def spoondriftref05_Cut.j3 : Nat → ByteArray → Int → Int → Int → Bool → Int → Int → ByteArray → Option (Int × Int × ByteArray × Int)
  | 0, _, _, _, _, _, _, _, _ => none
  | k + 1, x0, x1, x2, x12, x62, x103000, x103001, x103002 => if x62 = true then (if (x103002.size : Int) = x2 then (some (x103000, x103001, x103002, x12)) else (if x103002.toList = ([48] : List UInt8) then (some (x103000, x103001, x103002, x12)) else (if 0 ≤ x1 then (if x1 ≤ (wrap64 (x12 + 1)) then (if (wrap64 (x12 + 1)) ≤ (x0.size : Int) then (spoondriftref05_Cut.l1 k x0 x1 x2 (wrap64 (x12 + 1)) x103000 x103001 (x0.extract (x1 : Int).toNat ((wrap64 (x12 + 1)) : Int).toNat)) else (none)) else (none)) else (none)))) else (some (x103000, x103001, x103002, (-1)))
def spoondriftref05_Cut.l2 : Nat → ByteArray → Int → ByteArray → Int → Int → Int → ByteArray → Option (Int × Int × ByteArray × Int)
  | 0, _, _, _, _, _, _, _ => none
  | k + 1, x0, x1, x3, x13, x103000, x103001, x103002 => if x13 < (x3.size : Int) then (if 0 ≤ x13 then (if 0 ≤ x1 then (if x1 < (x0.size : Int) then (if (bt x3 x13) = (bt x0 x1) then (if x1 ≤ (wrap64 (x1 + 1)) then (if (wrap64 (x1 + 1)) ≤ (x0.size : Int) then (some (x103000, wrap64 (bt x0 x1), x0.extract (x1 : Int).toNat ((wrap64 (x1 + 1)) : Int).toNat, (-1))) else (none)) else (none)) else (spoondriftref05_Cut.l2 k x0 x1 x3 (wrap64 (x13 + 1)) x103000 x103001 x103002)) else (none)) else (none)) else (none)) else (some (x103000, x103001, x103002, x1))
end
def spoondriftref05_Cut.f (k : Nat) (a0 : ByteArray) (a1 : Int) (a2 : Int) (a3 : ByteArray) : Option (Int × Int × ByteArray × Int) := if 0 ≤ a1 then (if a1 < (a0.size : Int) then ((spoondriftref05_letter.f (bt a0 a1)).bind fun t103 => (if t103 = true then (spoondriftref05_Cut.l0 k a0 a1 a1 a1 1 (⟨#[]⟩ : ByteArray)) else ((spoondriftref05_digit.f (bt a0 a1)).bind fun t105 => (if t105 = true then (spoondriftref05_Cut.l1 k a0 a1 a2 a1 a1 2 (⟨#[]⟩ : ByteArray)) else (spoondriftref05_Cut.l2 k a0 a1 a3 0 a1 0 (⟨#[]⟩ : ByteArray)))))) else (none)) else (none)
theorem spoondriftref05_Cut.mono_l : ∀ k, (∀ y0 y1 y2 y3 y4 y5, LeO (spoondriftref05_Cut.l0 k y0 y1 y2 y3 y4 y5) (spoondriftref05_Cut.l0 (k + 1) y0 y1 y2 y3 y4 y5)) ∧ (∀ y0 y1 y2 y3 y4 y5 y6, LeO (spoondriftref05_Cut.j1 k y0 y1 y2 y3 y4 y5 y6) (spoondriftref05_Cut.j1 (k + 1) y0 y1 y2 y3 y4 y5 y6)) ∧ (∀ y0 y1 y2 y3 y4 y5 y6, LeO (spoondriftref05_Cut.l1 k y0 y1 y2 y3 y4 y5 y6) (spoondriftref05_Cut.l1 (k + 1) y0 y1 y2 y3 y4 y5 y6)) ∧ (∀ y0 y1 y2 y3 y4 y5 y6 y7, LeO (spoondriftref05_Cut.j3 k y0 y1 y2 y3 y4 y5 y6 y7) (spoondriftref05_Cut.j3 (k + 1) y0 y1 y2 y3 y4 y5 y6 y7)) ∧ (∀ y0 y1 y2 y3 y4 y5 y6, LeO (spoondriftref05_Cut.l2 k y0 y1 y2 y3 y4 y5 y6) (spoondriftref05_Cut.l2 (k + 1) y0 y1 y2 y3 y4 y5 y6))
  | 0 => ⟨fun _ _ _ _ _ _ r h => by simp [spoondriftref05_Cut.l0] at h, fun _ _ _ _ _ _ _ r h => by simp [spoondriftref05_Cut.j1] at h, fun _ _ _ _ _ _ _ r h => by simp [spoondriftref05_Cut.l1] at h, fun _ _ _ _ _ _ _ _ r h => by simp [spoondriftref05_Cut.j3] at h, fun _ _ _ _ _ _ _ r h => by simp [spoondriftref05_Cut.l2] at h⟩
  | k + 1 => by
    obtain ⟨ih0, ih1, ih2, ih3, ih4⟩ := spoondriftref05_Cut.mono_l k
    refine ⟨?_, ?_, ?_, ?_, ?_⟩
    · intro y0 y1 y2 y3 y4 y5
      unfold spoondriftref05_Cut.l0
      repeat' first
      | (with_reducible exact ih0 _ _ _ _ _ _)
      | (with_reducible exact ih1 _ _ _ _ _ _ _)
      | (with_reducible exact ih2 _ _ _ _ _ _ _)
      | (with_reducible exact ih3 _ _ _ _ _ _ _ _)
      | (with_reducible exact ih4 _ _ _ _ _ _ _)
      | (with_reducible exact LeO.refl _)
      | (with_reducible exact LeO.none _)
      | (with_reducible refine LeO.ite ?_ ?_)
      | (with_reducible refine LeO.bind ?_ (fun _ => ?_))
      | exact ih0 _ _ _ _ _ _
      | exact ih1 _ _ _ _ _ _ _
      | exact ih2 _ _ _ _ _ _ _
      | exact ih3 _ _ _ _ _ _ _ _
      | exact ih4 _ _ _ _ _ _ _
      | exact LeO.none _
      | refine LeO.ite ?_ ?_
      | refine LeO.bind ?_ (fun _ => ?_)
    · intro y0 y1 y2 y3 y4 y5 y6
      unfold spoondriftref05_Cut.j1
      repeat' first
      | (with_reducible exact ih0 _ _ _ _ _ _)
      | (with_reducible exact ih1 _ _ _ _ _ _ _)
      | (with_reducible exact ih2 _ _ _ _ _ _ _)
      | (with_reducible exact ih3 _ _ _ _ _ _ _ _)
      | (with_reducible exact ih4 _ _ _ _ _ _ _)
      | (with_reducible exact LeO.refl _)
      | (with_reducible exact LeO.none _)
      | (with_reducible refine LeO.ite ?_ ?_)
      | (with_reducible refine LeO.bind ?_ (fun _ => ?_))
      | exact ih0 _ _ _ _ _ _
      | exact ih1 _ _ _ _ _ _ _
      | exact ih2 _ _ _ _ _ _ _
      | exact ih3 _ _ _ _ _ _ _ _
      | exact ih4 _ _ _ _ _ _ _
      | exact LeO.none _
      | refine LeO.ite ?_ ?_
      | refine LeO.bind ?_ (fun _ => ?_)
    · intro y0 y1 y2 y3 y4 y5 y6
      unfold spoondriftref05_Cut.l1
      repeat' first
      | (with_reducible exact ih0 _ _ _ _ _ _)
      | (with_reducible exact ih1 _ _ _ _ _ _ _)
      | (with_reducible exact ih2 _ _ _ _ _ _ _)
      | (with_reducible exact ih3 _ _ _ _ _ _ _ _)
      | (with_reducible exact ih4 _ _ _ _ _ _ _)
      | (with_reducible exact LeO.refl _)
      | (with_reducible exact LeO.none _)
      | (with_reducible refine LeO.ite ?_ ?_)
      | (with_reducible refine LeO.bind ?_ (fun _ => ?_))
      | exact ih0 _ _ _ _ _ _
      | exact ih1 _ _ _ _ _ _ _
      | exact ih2 _ _ _ _ _ _ _
      | exact ih3 _ _ _ _ _ _ _ _
      | exact ih4 _ _ _ _ _ _ _
      | exact LeO.none _
      | refine LeO.ite ?_ ?_
      | refine LeO.bind ?_ (fun _ => ?_)
    · intro y0 y1 y2 y3 y4 y5 y6 y7
      unfold spoondriftref05_Cut.j3
      repeat' first
      | (with_reducible exact ih0 _ _ _ _ _ _)
      | (with_reducible exact ih1 _ _ _ _ _ _ _)
      | (with_reducible exact ih2 _ _ _ _ _ _ _)
      | (with_reducible exact ih3 _ _ _ _ _ _ _ _)
      | (with_reducible exact ih4 _ _ _ _ _ _ _)
      | (with_reducible exact LeO.refl _)
      | (with_reducible exact LeO.none _)
      | (with_reducible refine LeO.ite ?_ ?_)
      | (with_reducible refine LeO.bind ?_ (fun _ => ?_))
      | exact ih0 _ _ _ _ _ _
      | exact ih1 _ _ _ _ _ _ _
      | exact ih2 _ _ _ _ _ _ _
      | exact ih3 _ _ _ _ _ _ _ _
      | exact ih4 _ _ _ _ _ _ _
      | exact LeO.none _
      | refine LeO.ite ?_ ?_
      | refine LeO.bind ?_ (fun _ => ?_)
    · intro y0 y1 y2 y3 y4 y5 y6
      unfold spoondriftref05_Cut.l2
      repeat' first
      | (with_reducible exact ih0 _ _ _ _ _ _)
      | (with_reducible exact ih1 _ _ _ _ _ _ _)
      | (with_reducible exact ih2 _ _ _ _ _ _ _)
      | (with_reducible exact ih3 _ _ _ _ _ _ _ _)
      | (with_reducible exact ih4 _ _ _ _ _ _ _)
      | (with_reducible exact LeO.refl _)
      | (with_reducible exact LeO.none _)
      | (with_reducible refine LeO.ite ?_ ?_)
      | (with_reducible refine LeO.bind ?_ (fun _ => ?_))
      | exact ih0 _ _ _ _ _ _
      | exact ih1 _ _ _ _ _ _ _
      | exact ih2 _ _ _ _ _ _ _
      | exact ih3 _ _ _ _ _ _ _ _
      | exact ih4 _ _ _ _ _ _ _
      | exact LeO.none _
      | refine LeO.ite ?_ ?_
      | refine LeO.bind ?_ (fun _ => ?_)
theorem spoondriftref05_Cut.mono : ∀ a0 a1 a2 a3 k, LeO (spoondriftref05_Cut.f k a0 a1 a2 a3) (spoondriftref05_Cut.f (k + 1) a0 a1 a2 a3) := by
  intro a0 a1 a2 a3 k
  obtain ⟨ih0, ih1, ih2, ih3, ih4⟩ := spoondriftref05_Cut.mono_l k
  unfold spoondriftref05_Cut.f
  repeat' first
      | (with_reducible exact ih0 _ _ _ _ _ _)
      | (with_reducible exact ih1 _ _ _ _ _ _ _)
      | (with_reducible exact ih2 _ _ _ _ _ _ _)
      | (with_reducible exact ih3 _ _ _ _ _ _ _ _)
      | (with_reducible exact ih4 _ _ _ _ _ _ _)
      | (with_reducible exact LeO.refl _)
      | (with_reducible exact LeO.none _)
      | (with_reducible refine LeO.ite ?_ ?_)
      | (with_reducible refine LeO.bind ?_ (fun _ => ?_))
      | exact ih0 _ _ _ _ _ _
      | exact ih1 _ _ _ _ _ _ _
      | exact ih2 _ _ _ _ _ _ _
      | exact ih3 _ _ _ _ _ _ _ _
      | exact ih4 _ _ _ _ _ _ _
      | exact LeO.none _
      | refine LeO.ite ?_ ?_
      | refine LeO.bind ?_ (fun _ => ?_)
def spoondriftref05_Cut.T24 : Bool × List (List Nat × List Nat) := (true, [([], []), ([], []), ([0, 1], [0, 1]), ([2], [2]), ([], []), ([], []), ([], []), ([6], [6]), ([4, 5, 7], [4, 5, 7]), ([0, 1, 2, 3], []), ([9, 3, 0, 1, 2, 3], [3, 9]), ([0, 1, 2, 3, 4, 5, 6, 7, 8, 9, 10], []), ([11, 8, 10, 0, 1, 2, 3, 4, 5, 6, 7, 8, 9, 10], [8, 11])])
def spoondriftref05_Cut.B24 : List Nat := [0, 0, 3, 7, 0, 0, 0, 64, 240, 15, 527, 2047, 4095]
theorem spoondriftref05_Cut.tab24 : rtab .any (opsOf Tryz.f61 24) = spoondriftref05_Cut.T24 := by kernel_rfl
theorem spoondriftref05_Cut.bits24 : waitsOk spoondriftref05_Cut.T24.2 spoondriftref05_Cut.B24 = true := by kernel_rfl
set_option maxHeartbeats 8000000 in
set_option maxRecDepth 100000 in
theorem spoondriftref05_Cut.calls (k : Nat) (a0 : ByteArray) (a1 : Int) (a2 : Int) (a3 : ByteArray) (r1 : Int) (r2 : Int) (r3 : ByteArray) (r4 : Int) (w : World) (h : spoondriftref05_Cut.f k a0 a1 a2 a3 = some (r1, r2, r3, r4)) :
    Calls Tryz.prog 61 #[.string a0, .int .i64 a1, .int .i64 a2, .string a3] w fun e w' => e = .returned (.tuple #[.agg #[.int .i64 r1, .int .i64 r2, .string r3], .int .i64 r4]) ∧ Below w.heap.size w w' := by
  have hu34 := Tryz.underlying34
  have HB := Aside0.mk (Below.refl w.heap.size w)
  have H : (if 0 ≤ a1 then (if a1 < (a0.size : Int) then ((spoondriftref05_letter.f (bt a0 a1)).bind fun t103 => (if t103 = true then (spoondriftref05_Cut.l0 k a0 a1 a1 a1 1 (⟨#[]⟩ : ByteArray)) else ((spoondriftref05_digit.f (bt a0 a1)).bind fun t105 => (if t105 = true then (spoondriftref05_Cut.l1 k a0 a1 a2 a1 a1 2 (⟨#[]⟩ : ByteArray)) else (spoondriftref05_Cut.l2 k a0 a1 a3 0 a1 0 (⟨#[]⟩ : ByteArray)))))) else (none)) else (none)) = some (r1, r2, r3, r4) := h
  clear h
  by_cases c5 : 0 ≤ a1
  · rw [if_pos c5] at H
    have c5b0 : decide (0 ≤ a1) = true := decide_eq_true c5
    clear c5
    by_cases c6 : a1 < (a0.size : Int)
    · rw [if_pos c6] at H
      have c6b0 : decide (a1 < (a0.size : Int)) = true := decide_eq_true c6
      clear c6
      replace H := Option.bind_eq_some_iff.mp H
      obtain ⟨t103, A80, H⟩ := H
      replace H : (if t103 = true then (spoondriftref05_Cut.l0 k a0 a1 a1 a1 1 (⟨#[]⟩ : ByteArray)) else ((spoondriftref05_digit.f (bt a0 a1)).bind fun t105 => (if t105 = true then (spoondriftref05_Cut.l1 k a0 a1 a2 a1 a1 2 (⟨#[]⟩ : ByteArray)) else (spoondriftref05_Cut.l2 k a0 a1 a3 0 a1 0 (⟨#[]⟩ : ByteArray))))) = some (r1, r2, r3, r4) := H
      have A8 := Aside0.mk A80
      clear A80
      by_cases c9 : t103 = true
      · subst c9
        have H1 : (spoondriftref05_Cut.l0 k a0 a1 a1 a1 1 (⟨#[]⟩ : ByteArray)) = some (r1, r2, r3, r4) := by rw [if_pos rfl] at H; exact H
        clear H
        have H := H1
        clear H1
        have H' := Aside0.mk H
        clear H
        go_enter Tryz.func61, Tryz.ntmps61
        go_wp2_with (first | ((with_reducible refine gate_dst (N := 8) rfl ?_); refine box_event ?hg (N := 8) ?hd (cs := #[.int .i64 0, .int .i64 0, .string (⟨#[]⟩ : ByteArray)]) (t := 34) ?hr ?_; (case hd => rfl); (case hg => rfl); (case hr => first | (go_simp; done) | (go_simp; rfl)); intro gb101 hg w10 hbox hb; have n0_ := Aside0.mk (below_step (by repeat (first | (with_reducible first | exact HB.out | apply below_alloc | apply pw_below_drewN | apply below_drew1) | exact HB.out)) hb); have n1_ := Aside0.mk (hbox); have n2_ := Aside0.mk ((by rw [hg]; exact (below_size (by repeat (first | (with_reducible first | exact HB.out | apply below_alloc | apply pw_below_drewN | apply below_drew1) | exact HB.out))) : w.heap.size ≤ gb101)); have n3_ := Aside0.mk ((by rw [hg]; exact (below_size (by repeat (first | (with_reducible first | exact HB.out | apply below_alloc | apply pw_below_drewN | apply below_drew1) | exact HB.out))) : w.heap.size ≤ gb101)); clear HB; have HB := n0_; have BK101 := n1_; have GW101 := n2_; have GE101 := n3_; clear n0_ n1_ n2_ n3_; clear hb hbox hg) | ((with_reducible refine gate_dst (N := 10) rfl ?_); refine box_event ?hg (N := 10) ?hd (cs := #[.int .i64 0, .int .i64 0, .string (⟨#[]⟩ : ByteArray)]) (t := 34) ?hr ?_; (case hd => rfl); (case hg => rfl); (case hr => first | (go_simp; done) | (go_simp; rfl)); intro gb102 hg w11 hbox hb; have n0_ := Aside0.mk (blk_below (g := gb101) (o := .cells #[.int .i64 0, .int .i64 0, .string (⟨#[]⟩ : ByteArray)] 34 (0, 0)) (by (with_reducible repeat (first | refine blk_drewN ?_ _ | refine blk_drew ?_ | refine blk_alloc ?_ _)); exact BK101.out) hb); have n1_ := Aside0.mk (below_step (by repeat (first | (with_reducible first | exact HB.out | apply below_alloc | apply pw_below_drewN | apply below_drew1 | refine below_set ?_ GE101.out) | exact HB.out)) hb); have n2_ := Aside0.mk (hbox); have n3_ := Aside0.mk ((by rw [hg]; exact (below_size (by repeat (first | (with_reducible first | exact HB.out | apply below_alloc | apply pw_below_drewN | apply below_drew1 | refine below_set ?_ GE101.out) | exact HB.out))) : w.heap.size ≤ gb102)); have n4_ := Aside0.mk ((by rw [hg]; exact (below_size (by repeat (first | (with_reducible first | exact HB.out | apply below_alloc | apply pw_below_drewN | apply below_drew1 | refine below_set ?_ GE101.out) | exact HB.out))) : w.heap.size ≤ gb102)); have n5_ := Aside0.mk ((by rw [hg]; exact Nat.ne_of_lt (blk_lt (g := gb101) (o := .cells #[.int .i64 0, .int .i64 0, .string (⟨#[]⟩ : ByteArray)] 34 (0, 0)) (by (with_reducible repeat (first | refine blk_drewN ?_ _ | refine blk_drew ?_ | refine blk_alloc ?_ _)); exact BK101.out)) : gb101 ≠ gb102)); have n6_ := Aside0.mk ((by rw [hg]; exact Nat.ne_of_gt (blk_lt (g := gb101) (o := .cells #[.int .i64 0, .int .i64 0, .string (⟨#[]⟩ : ByteArray)] 34 (0, 0)) (by (with_reducible repeat (first | refine blk_drewN ?_ _ | refine blk_drew ?_ | refine blk_alloc ?_ _)); exact BK101.out)) : gb102 ≠ gb101)); clear BK101; clear HB; have BK101 := n0_; have HB := n1_; have BK102 := n2_; have GW102 := n3_; have GE102 := n4_; have NB101_102 := n5_; have NB102_101 := n6_; clear n0_ n1_ n2_ n3_ n4_ n5_ n6_; clear hb hbox hg; have hnb12 := NB102_101.out; have hnc12 := NB101_102.out; have hcz13_0 : w11.cell? ⟨gb102, 0, none⟩ = some (.int .i64 0) := (blk_cell BK102.out 0).trans rfl; have hcz13_1 : w11.cell? ⟨gb102, 1, none⟩ = some (.int .i64 0) := (blk_cell BK102.out 1).trans rfl; have hcz13_2 : w11.cell? ⟨gb102, 2, none⟩ = some (.string (⟨#[]⟩ : ByteArray)) := (blk_cell BK102.out 2).trans rfl; have hfz13_0 := blk_frozen BK102.out 0; have hfz13_1 := blk_frozen BK102.out 1; have hfz13_2 := blk_frozen BK102.out 2; have p7 : 0 ≤ (a1 : Int) := of_decide_eq_true (by first | (with_reducible assumption) | assumption); have q7 : a1 < (a0.size : Int) := of_decide_eq_true (by first | (with_reducible assumption) | assumption); have hx7 := bt_at a0 a1; replace p7 := eq_true p7; replace q7 := eq_true q7) | ((with_reducible refine gate_callee (f := 85) rfl ?_); refine goesL_ (some 19) rfl rfl Tryz.func85 (by kernel_rfl) rfl #[.int .u8 (bt a0 a1)] rfl (by (try simp only [List.map_toArray, List.map_cons, List.map_nil]); first | done | rfl | (simp only [List.length_drop, List.length_take]; rfl)) ?_; (with_reducible refine (spoondriftref05_letter.calls (bt a0 a1) true _ A8.out).mono ?_); rintro e w' ⟨rfl, ⟨nd, rfl⟩⟩; refine ⟨_, rfl, ?_⟩))
        (try simp only [Act.put, List.setIfInBounds_toArray, List.set_cons_zero, List.set_cons_succ])
        go_loopg [11] k (fun kq v11 w' => ∃ (x11_1 : Int) (x102000_1 : Int) (x102001_1 : Int) (x102002_1 : ByteArray) (x103002_1 : ByteArray), v11 = .int .i64 x11_1 ∧ Aside0 (spoondriftref05_Cut.l0 kq a0 a1 x11_1 a1 1 x103002_1 = some (r1, r2, r3, r4)) ∧ Aside0 (kq ≤ k) ∧ Aside0 (w'.heap[gb101]? = some (.cells #[.int .i64 x102000_1, .int .i64 x102001_1, .string x102002_1] 34 (0, 0))) ∧ Aside0 (w'.heap[gb102]? = some (.cells #[.int .i64 a1, .int .i64 1, .string x103002_1] 34 (0, 0))) ∧ Aside0 (Below w.heap.size w w'))
        case atStart => exact ⟨(a1), (0), (0), ((⟨#[]⟩ : ByteArray)), ((⟨#[]⟩ : ByteArray)), (by first | rfl | (simp; done) | (simp [*]; done)), H', ⟨Nat.le_refl _⟩, ⟨by (with_reducible repeat (first | refine blk_drewN ?_ _ | refine blk_drew ?_ | refine blk_alloc ?_ _)); refine blk_far ?_ NB101_102.out _; (with_reducible repeat (first | refine blk_drewN ?_ _ | refine blk_drew ?_ | refine blk_alloc ?_ _)); refine blk_far ?_ NB101_102.out _; (with_reducible repeat (first | refine blk_drewN ?_ _ | refine blk_drew ?_ | refine blk_alloc ?_ _)); refine blk_far ?_ NB101_102.out _; (with_reducible repeat (first | refine blk_drewN ?_ _ | refine blk_drew ?_ | refine blk_alloc ?_ _)); refine blk_far ?_ NB101_102.out _; (with_reducible repeat (first | refine blk_drewN ?_ _ | refine blk_drew ?_ | refine blk_alloc ?_ _)); exact BK101.out⟩, ⟨by (with_reducible repeat (first | refine blk_drewN ?_ _ | refine blk_drew ?_ | refine blk_alloc ?_ _)); refine blk_put (cs := #[.int .i64 a1, .int .i64 0, .string (⟨#[]⟩ : ByteArray)]) ?_ 1 _ rfl; (with_reducible repeat (first | refine blk_drewN ?_ _ | refine blk_drew ?_ | refine blk_alloc ?_ _)); refine blk_put (cs := #[.int .i64 a1, .int .i64 0, .string (⟨#[]⟩ : ByteArray)]) ?_ 2 _ rfl; (with_reducible repeat (first | refine blk_drewN ?_ _ | refine blk_drew ?_ | refine blk_alloc ?_ _)); refine blk_put (cs := #[.int .i64 a1, .int .i64 0, .string (⟨#[]⟩ : ByteArray)]) ?_ 1 _ rfl; (with_reducible repeat (first | refine blk_drewN ?_ _ | refine blk_drew ?_ | refine blk_alloc ?_ _)); refine blk_put (cs := #[.int .i64 0, .int .i64 0, .string (⟨#[]⟩ : ByteArray)]) ?_ 0 _ rfl; (with_reducible repeat (first | refine blk_drewN ?_ _ | refine blk_drew ?_ | refine blk_alloc ?_ _)); exact BK102.out⟩, ⟨by repeat (first | (with_reducible first | exact HB.out | apply below_alloc | apply pw_below_drewN | apply below_drew1 | refine below_set ?_ GE101.out | refine below_set ?_ GE102.out) | exact HB.out)⟩⟩
        case round =>
          clear H'
          try clear c1
          try clear p2
          try clear c5
          try clear c5b0
          try clear c6
          try clear c6b0
          try clear p7
          try clear q7
          try clear hx7
          try clear c8
          try clear c9
          try clear c12
          try clear hcz13_0
          try clear hcz13_1
          try clear hcz13_2
          try clear hfz13_0
          try clear hfz13_1
          try clear hfz13_2
          try clear p7
          try clear q7
          obtain ⟨x11_1, x102000_1, x102001_1, x102002_1, x103002_1, rfl, HA, HK1, BK101, BK102, HB⟩ := hrel
          cases gk with
          | zero => exact absurd HA.out (by simp [spoondriftref05_Cut.l0])
          | succ k1 =>
            have H := HA.out
            clear HA
            simp only [spoondriftref05_Cut.l0] at H
            have HC14 := Aside0.mk H
            clear H
            go_upto_region 5 with (fail)
            go_cut [31] (fun v31 wc => ∃ (kq : Nat) (x31_13 : Bool), v31 = .bool x31_13 ∧ Aside0 (spoondriftref05_Cut.j1 kq a0 a1 x11_1 x31_13 a1 1 x103002_1 = some (r1, r2, r3, r4)) ∧ Aside0 (kq ≤ k1) ∧ Aside0 (wc.heap[gb101]? = some (.cells #[.int .i64 x102000_1, .int .i64 x102001_1, .string x102002_1] 34 (0, 0))) ∧ Aside0 (wc.heap[gb102]? = some (.cells #[.int .i64 a1, .int .i64 1, .string x103002_1] 34 (0, 0))) ∧ Aside0 (Below w.heap.size w wc))
            case first =>
              have H := HC14.out
              clear HC14
              by_cases c15 : x11_1 < (a0.size : Int)
              · rw [if_pos c15] at H
                have c15b0 : decide (x11_1 < (a0.size : Int)) = true := decide_eq_true c15
                clear c15
                (first | rw [c15b0] | (simp only [i64_w, i32_w]; rw [c15b0]) | skip)
                by_cases c16 : 0 ≤ x11_1
                · rw [if_pos c16] at H
                  have c16b0 : decide (0 ≤ x11_1) = true := decide_eq_true c16
                  clear c16
                  replace H := Option.bind_eq_some_iff.mp H
                  obtain ⟨t104, A180, H⟩ := H
                  replace H : (spoondriftref05_Cut.j1 k1 a0 a1 x11_1 t104 a1 1 x103002_1) = some (r1, r2, r3, r4) := H
                  have A18 := Aside0.mk A180
                  clear A180
                  have H' := Aside0.mk H
                  clear H
                  have p17 : 0 ≤ (x11_1 : Int) := of_decide_eq_true (by first | (with_reducible assumption) | assumption)
                  have q17 : x11_1 < (a0.size : Int) := of_decide_eq_true (by first | (with_reducible assumption) | assumption)
                  have hx17 := bt_at a0 x11_1
                  replace p17 := eq_true p17
                  replace q17 := eq_true q17
                  go_wp2_with (first | (go_at_call 85; (with_reducible refine (spoondriftref05_letter.calls (bt a0 x11_1) t104 _ A18.out).mono ?_); rintro e w' ⟨rfl, ⟨nd, rfl⟩⟩))
                  go_meet
                  case rel => exact ⟨_, (t104), (by first | rfl | (simp; done) | (simp [*]; done)), H', ⟨by have := HK1.out; first | omega | exact Nat.le_refl _⟩, ⟨by (with_reducible repeat (first | refine blk_drewN ?_ _ | refine blk_drew ?_ | refine blk_alloc ?_ _)); exact BK101.out⟩, ⟨by (with_reducible repeat (first | refine blk_drewN ?_ _ | refine blk_drew ?_ | refine blk_alloc ?_ _)); exact BK102.out⟩, ⟨by repeat (first | (with_reducible first | exact HB.out | apply below_alloc | apply pw_below_drewN | apply below_drew1 | refine below_set ?_ GE101.out | refine below_set ?_ GE102.out) | exact HB.out)⟩⟩
                · rw [if_neg c16] at H
                  exact absurd H (by simp)
              · rw [if_neg c15] at H
                have c15b0 : decide (x11_1 < (a0.size : Int)) = false := decide_eq_false c15
                clear c15
                (first | rw [c15b0] | (simp only [i64_w, i32_w]; rw [c15b0]) | skip)
                have H' := Aside0.mk H
                clear H
                go_wp2
                go_meet
                case rel => exact ⟨_, (false), (by first | rfl | (simp; done) | (simp [*]; done)), H', ⟨by have := HK1.out; first | omega | exact Nat.le_refl _⟩, ⟨by (with_reducible repeat (first | refine blk_drewN ?_ _ | refine blk_drew ?_ | refine blk_alloc ?_ _)); exact BK101.out⟩, ⟨by (with_reducible repeat (first | refine blk_drewN ?_ _ | refine blk_drew ?_ | refine blk_alloc ?_ _)); exact BK102.out⟩, ⟨by repeat (first | (with_reducible first | exact HB.out | apply below_alloc | apply pw_below_drewN | apply below_drew1 | refine below_set ?_ GE101.out | refine below_set ?_ GE102.out) | exact HB.out)⟩⟩
            case rest =>
              clear HC14
              try clear c1
              try clear p1
              try clear q1
              try clear hx1
              try clear p2
              try clear c5
              try clear c5b0
              try clear c6
              try clear c6b0
              try clear p7
              try clear q7
              try clear hx7
              try clear c8
              try clear c9
              try clear c12
              try clear c15
              try clear c15b0
              try clear c16
              try clear c16b0
              try clear p17
              try clear q17
              try clear hx17
              try clear hcz13_0
              try clear hcz13_1
              try clear hcz13_2
              try clear hfz13_0
              try clear hfz13_1
              try clear hfz13_2
              try clear p17
              try clear p2
              try clear p7
              try clear q17
              try clear q7
              obtain ⟨kq, x31_13, rfl, HA, HJ13, BK101, BK102, HB⟩ := hcut
              cases kq with
              | zero => exact absurd HA.out (by simp [spoondriftref05_Cut.j1])
              | succ kj13 =>
                have H := HA.out
                clear HA
                simp only [spoondriftref05_Cut.j1] at H
                by_cases c19 : x31_13 = true
                · subst c19
                  have H1 : (if (x103002_1.size : Int) = 8 then (some (a1, 1, x103002_1, x11_1)) else (if 0 ≤ a1 then (if a1 ≤ (wrap64 (x11_1 + 1)) then (if (wrap64 (x11_1 + 1)) ≤ (a0.size : Int) then (spoondriftref05_Cut.l0 kj13 a0 a1 (wrap64 (x11_1 + 1)) a1 1 (a0.extract (a1 : Int).toNat ((wrap64 (x11_1 + 1)) : Int).toNat)) else (none)) else (none)) else (none))) = some (r1, r2, r3, r4) := by rw [if_pos rfl] at H; exact H
                  clear H
                  have H := H1
                  clear H1
                  by_cases c20 : (x103002_1.size : Int) = 8
                  · rw [if_pos c20] at H
                    have c20b0 : ((x103002_1.size : Int) == 8) = true := beq_iff_eq.mpr c20
                    have c20b1 : ((x103002_1.size : Int) != 8) = false := bne_eq_false_iff_eq.mpr c20
                    clear c20
                    simp only [Option.some.injEq, Prod.mk.injEq] at H
                    obtain ⟨rfl, rfl, rfl, rfl⟩ := H
                    have hnb21 := NB102_101.out
                    have hnc21 := NB101_102.out
                    have hcz22_0 : wc.cell? ⟨gb102, 0, none⟩ = some (.int .i64 a1) := (blk_cell BK102.out 0).trans rfl
                    have hcz22_1 : wc.cell? ⟨gb102, 1, none⟩ = some (.int .i64 1) := (blk_cell BK102.out 1).trans rfl
                    have hcz22_2 : wc.cell? ⟨gb102, 2, none⟩ = some (.string x103002_1) := (blk_cell BK102.out 2).trans rfl
                    have hfz22_0 := blk_frozen BK102.out 0
                    have hfz22_1 := blk_frozen BK102.out 1
                    have hfz22_2 := blk_frozen BK102.out 2
                    have hcz23_0 : wc.cell? ⟨gb101, 0, none⟩ = some (.int .i64 x102000_1) := (blk_cell BK101.out 0).trans rfl
                    have hcz23_1 : wc.cell? ⟨gb101, 1, none⟩ = some (.int .i64 x102001_1) := (blk_cell BK101.out 1).trans rfl
                    have hcz23_2 : wc.cell? ⟨gb101, 2, none⟩ = some (.string x102002_1) := (blk_cell BK101.out 2).trans rfl
                    have hfz23_0 := blk_frozen BK101.out 0
                    have hfz23_1 := blk_frozen BK101.out 1
                    have hfz23_2 := blk_frozen BK101.out 2
                    go_wp2
                    refine bodyPost_ret (results_ct rfl _ _ gb101 34 #[.int .i64 a1, .int .i64 1, .string x103002_1] (0, 0) _ rfl (by (with_reducible repeat (first | refine blk_drewN ?_ _ | refine blk_drew ?_ | refine blk_alloc ?_ _)); refine blk_put (cs := #[.int .i64 a1, .int .i64 1, .string x102002_1]) ?_ 2 _ rfl; (with_reducible repeat (first | refine blk_drewN ?_ _ | refine blk_drew ?_ | refine blk_alloc ?_ _)); refine blk_put (cs := #[.int .i64 a1, .int .i64 x102001_1, .string x102002_1]) ?_ 1 _ rfl; (with_reducible repeat (first | refine blk_drewN ?_ _ | refine blk_drew ?_ | refine blk_alloc ?_ _)); refine blk_put (cs := #[.int .i64 x102000_1, .int .i64 x102001_1, .string x102002_1]) ?_ 0 _ rfl; (with_reducible repeat (first | refine blk_drewN ?_ _ | refine blk_drew ?_ | refine blk_alloc ?_ _)); exact BK101.out) Tryz.underlying34 rfl (by kernel_rfl)) rfl ?_
                    exact ⟨by first | rfl | (simp [errW_none, errW_some] <;> rfl) | (simp [*, errW_none, errW_some] <;> rfl), by repeat (first | (with_reducible first | exact HB.out | apply below_alloc | apply pw_below_drewN | apply below_drew1 | refine below_set ?_ GE101.out | refine below_set ?_ GE102.out) | exact HB.out)⟩
                  · rw [if_neg c20] at H
                    have c20b0 : ((x103002_1.size : Int) == 8) = false := beq_eq_false_iff_ne.mpr c20
                    have c20b1 : ((x103002_1.size : Int) != 8) = true := bne_iff_ne.mpr c20
                    by_cases c24 : 0 ≤ a1
                    · rw [if_pos c24] at H
                      have c24b0 := eq_true c24
                      have c24b1 : decide (0 ≤ a1) = true := decide_eq_true c24
                      clear c24
                      by_cases c25 : a1 ≤ (wrap64 (x11_1 + 1))
                      · rw [if_pos c25] at H
                        have c25b0 := eq_true c25
                        have c25b1 : decide (a1 ≤ (wrap64 (x11_1 + 1))) = true := decide_eq_true c25
                        by_cases c26 : (wrap64 (x11_1 + 1)) ≤ (a0.size : Int)
                        · rw [if_pos c26] at H
                          have c26b0 := eq_true c26
                          have c26b1 : decide ((wrap64 (x11_1 + 1)) ≤ (a0.size : Int)) = true := decide_eq_true c26
                          have H' := Aside0.mk H
                          clear H
                          have hnb27 := NB102_101.out
                          have hnc27 := NB101_102.out
                          have hcz28_0 : wc.cell? ⟨gb102, 0, none⟩ = some (.int .i64 a1) := (blk_cell BK102.out 0).trans rfl
                          have hcz28_1 : wc.cell? ⟨gb102, 1, none⟩ = some (.int .i64 1) := (blk_cell BK102.out 1).trans rfl
                          have hcz28_2 : wc.cell? ⟨gb102, 2, none⟩ = some (.string x103002_1) := (blk_cell BK102.out 2).trans rfl
                          have hfz28_0 := blk_frozen BK102.out 0
                          have hfz28_1 := blk_frozen BK102.out 1
                          have hfz28_2 := blk_frozen BK102.out 2
                          go_wp2
                          go_roundg kj13
                          case measure => have := HK1.out; have := HJ13.out; omega
                          case rel => exact ⟨(wrap64 (x11_1 + 1)), (x102000_1), (x102001_1), (x102002_1), (a0.extract (a1 : Int).toNat ((wrap64 (x11_1 + 1)) : Int).toNat), (by first | rfl | (simp; done) | (simp [*]; done)), H', ⟨by have := HK1.out; have := HJ13.out; omega⟩, ⟨by (with_reducible repeat (first | refine blk_drewN ?_ _ | refine blk_drew ?_ | refine blk_alloc ?_ _)); refine blk_far ?_ NB101_102.out _; (with_reducible repeat (first | refine blk_drewN ?_ _ | refine blk_drew ?_ | refine blk_alloc ?_ _)); exact BK101.out⟩, ⟨by (with_reducible repeat (first | refine blk_drewN ?_ _ | refine blk_drew ?_ | refine blk_alloc ?_ _)); refine blk_put (cs := #[.int .i64 a1, .int .i64 1, .string x103002_1]) ?_ 2 _ rfl; (with_reducible repeat (first | refine blk_drewN ?_ _ | refine blk_drew ?_ | refine blk_alloc ?_ _)); exact BK102.out⟩, ⟨by repeat (first | (with_reducible first | exact HB.out | apply below_alloc | apply pw_below_drewN | apply below_drew1 | refine below_set ?_ GE101.out | refine below_set ?_ GE102.out) | exact HB.out)⟩⟩
                        · rw [if_neg c26] at H
                          exact absurd H (by simp)
                      · rw [if_neg c25] at H
                        exact absurd H (by simp)
                    · rw [if_neg c24] at H
                      exact absurd H (by simp)
                · replace c19 := Bool.eq_false_iff.mpr c19
                  subst c19
                  have H1 : (some (a1, 1, x103002_1, (-1))) = some (r1, r2, r3, r4) := by rw [if_neg (show ¬ (false = true) by decide)] at H; exact H
                  clear H
                  have H := H1
                  clear H1
                  simp only [Option.some.injEq, Prod.mk.injEq] at H
                  obtain ⟨rfl, rfl, rfl, rfl⟩ := H
                  have hnb29 := NB102_101.out
                  have hnc29 := NB101_102.out
                  have hcz30_0 : wc.cell? ⟨gb102, 0, none⟩ = some (.int .i64 a1) := (blk_cell BK102.out 0).trans rfl
                  have hcz30_1 : wc.cell? ⟨gb102, 1, none⟩ = some (.int .i64 1) := (blk_cell BK102.out 1).trans rfl
                  have hcz30_2 : wc.cell? ⟨gb102, 2, none⟩ = some (.string x103002_1) := (blk_cell BK102.out 2).trans rfl
                  have hfz30_0 := blk_frozen BK102.out 0
                  have hfz30_1 := blk_frozen BK102.out 1
                  have hfz30_2 := blk_frozen BK102.out 2
                  have hcz31_0 : wc.cell? ⟨gb101, 0, none⟩ = some (.int .i64 x102000_1) := (blk_cell BK101.out 0).trans rfl
                  have hcz31_1 : wc.cell? ⟨gb101, 1, none⟩ = some (.int .i64 x102001_1) := (blk_cell BK101.out 1).trans rfl
                  have hcz31_2 : wc.cell? ⟨gb101, 2, none⟩ = some (.string x102002_1) := (blk_cell BK101.out 2).trans rfl
                  have hfz31_0 := blk_frozen BK101.out 0
                  have hfz31_1 := blk_frozen BK101.out 1
                  have hfz31_2 := blk_frozen BK101.out 2
                  go_wp2
                  refine bodyPost_ret (results_ct rfl _ _ gb101 34 #[.int .i64 a1, .int .i64 1, .string x103002_1] (0, 0) _ rfl (by (with_reducible repeat (first | refine blk_drewN ?_ _ | refine blk_drew ?_ | refine blk_alloc ?_ _)); refine blk_put (cs := #[.int .i64 a1, .int .i64 1, .string x102002_1]) ?_ 2 _ rfl; (with_reducible repeat (first | refine blk_drewN ?_ _ | refine blk_drew ?_ | refine blk_alloc ?_ _)); refine blk_put (cs := #[.int .i64 a1, .int .i64 x102001_1, .string x102002_1]) ?_ 1 _ rfl; (with_reducible repeat (first | refine blk_drewN ?_ _ | refine blk_drew ?_ | refine blk_alloc ?_ _)); refine blk_put (cs := #[.int .i64 x102000_1, .int .i64 x102001_1, .string x102002_1]) ?_ 0 _ rfl; (with_reducible repeat (first | refine blk_drewN ?_ _ | refine blk_drew ?_ | refine blk_alloc ?_ _)); exact BK101.out) Tryz.underlying34 rfl (by kernel_rfl)) rfl ?_
                  exact ⟨by first | rfl | (simp [errW_none, errW_some] <;> rfl) | (simp [*, errW_none, errW_some] <;> rfl), by repeat (first | (with_reducible first | exact HB.out | apply below_alloc | apply pw_below_drewN | apply below_drew1 | refine below_set ?_ GE101.out | refine below_set ?_ GE102.out) | exact HB.out)⟩
      · replace c9 := Bool.eq_false_iff.mpr c9
        subst c9
        have H1 : ((spoondriftref05_digit.f (bt a0 a1)).bind fun t105 => (if t105 = true then (spoondriftref05_Cut.l1 k a0 a1 a2 a1 a1 2 (⟨#[]⟩ : ByteArray)) else (spoondriftref05_Cut.l2 k a0 a1 a3 0 a1 0 (⟨#[]⟩ : ByteArray)))) = some (r1, r2, r3, r4) := by rw [if_neg (show ¬ (false = true) by decide)] at H; exact H
        clear H
        have H := H1
        clear H1
        replace H := Option.bind_eq_some_iff.mp H
        obtain ⟨t105, A330, H⟩ := H
        replace H : (if t105 = true then (spoondriftref05_Cut.l1 k a0 a1 a2 a1 a1 2 (⟨#[]⟩ : ByteArray)) else (spoondriftref05_Cut.l2 k a0 a1 a3 0 a1 0 (⟨#[]⟩ : ByteArray))) = some (r1, r2, r3, r4) := H
        have A33 := Aside0.mk A330
        clear A330
        by_cases c34 : t105 = true
        · subst c34
          have H1 : (spoondriftref05_Cut.l1 k a0 a1 a2 a1 a1 2 (⟨#[]⟩ : ByteArray)) = some (r1, r2, r3, r4) := by rw [if_pos rfl] at H; exact H
          clear H
          have H := H1
          clear H1
          have H' := Aside0.mk H
          clear H
          go_enter Tryz.func61, Tryz.ntmps61
          go_wp2_with (first | ((with_reducible refine gate_dst (N := 8) rfl ?_); refine box_event ?hg (N := 8) ?hd (cs := #[.int .i64 0, .int .i64 0, .string (⟨#[]⟩ : ByteArray)]) (t := 34) ?hr ?_; (case hd => rfl); (case hg => rfl); (case hr => first | (go_simp; done) | (go_simp; rfl)); intro gb101 hg w35 hbox hb; have n0_ := Aside0.mk (below_step (by repeat (first | (with_reducible first | exact HB.out | apply below_alloc | apply pw_below_drewN | apply below_drew1) | exact HB.out)) hb); have n1_ := Aside0.mk (hbox); have n2_ := Aside0.mk ((by rw [hg]; exact (below_size (by repeat (first | (with_reducible first | exact HB.out | apply below_alloc | apply pw_below_drewN | apply below_drew1) | exact HB.out))) : w.heap.size ≤ gb101)); have n3_ := Aside0.mk ((by rw [hg]; exact (below_size (by repeat (first | (with_reducible first | exact HB.out | apply below_alloc | apply pw_below_drewN | apply below_drew1) | exact HB.out))) : w.heap.size ≤ gb101)); clear HB; have HB := n0_; have BK101 := n1_; have GW101 := n2_; have GE101 := n3_; clear n0_ n1_ n2_ n3_; clear hb hbox hg) | ((with_reducible refine gate_dst (N := 10) rfl ?_); refine box_event ?hg (N := 10) ?hd (cs := #[.int .i64 0, .int .i64 0, .string (⟨#[]⟩ : ByteArray)]) (t := 34) ?hr ?_; (case hd => rfl); (case hg => rfl); (case hr => first | (go_simp; done) | (go_simp; rfl)); intro gb102 hg w36 hbox hb; have n0_ := Aside0.mk (blk_below (g := gb101) (o := .cells #[.int .i64 0, .int .i64 0, .string (⟨#[]⟩ : ByteArray)] 34 (0, 0)) (by (with_reducible repeat (first | refine blk_drewN ?_ _ | refine blk_drew ?_ | refine blk_alloc ?_ _)); exact BK101.out) hb); have n1_ := Aside0.mk (below_step (by repeat (first | (with_reducible first | exact HB.out | apply below_alloc | apply pw_below_drewN | apply below_drew1 | refine below_set ?_ GE101.out) | exact HB.out)) hb); have n2_ := Aside0.mk (hbox); have n3_ := Aside0.mk ((by rw [hg]; exact (below_size (by repeat (first | (with_reducible first | exact HB.out | apply below_alloc | apply pw_below_drewN | apply below_drew1 | refine below_set ?_ GE101.out) | exact HB.out))) : w.heap.size ≤ gb102)); have n4_ := Aside0.mk ((by rw [hg]; exact (below_size (by repeat (first | (with_reducible first | exact HB.out | apply below_alloc | apply pw_below_drewN | apply below_drew1 | refine below_set ?_ GE101.out) | exact HB.out))) : w.heap.size ≤ gb102)); have n5_ := Aside0.mk ((by rw [hg]; exact Nat.ne_of_lt (blk_lt (g := gb101) (o := .cells #[.int .i64 0, .int .i64 0, .string (⟨#[]⟩ : ByteArray)] 34 (0, 0)) (by (with_reducible repeat (first | refine blk_drewN ?_ _ | refine blk_drew ?_ | refine blk_alloc ?_ _)); exact BK101.out)) : gb101 ≠ gb102)); have n6_ := Aside0.mk ((by rw [hg]; exact Nat.ne_of_gt (blk_lt (g := gb101) (o := .cells #[.int .i64 0, .int .i64 0, .string (⟨#[]⟩ : ByteArray)] 34 (0, 0)) (by (with_reducible repeat (first | refine blk_drewN ?_ _ | refine blk_drew ?_ | refine blk_alloc ?_ _)); exact BK101.out)) : gb102 ≠ gb101)); clear BK101; clear HB; have BK101 := n0_; have HB := n1_; have BK102 := n2_; have GW102 := n3_; have GE102 := n4_; have NB101_102 := n5_; have NB102_101 := n6_; clear n0_ n1_ n2_ n3_ n4_ n5_ n6_; clear hb hbox hg; have hnb37 := NB102_101.out; have hnc37 := NB101_102.out; have hcz38_0 : w36.cell? ⟨gb102, 0, none⟩ = some (.int .i64 0) := (blk_cell BK102.out 0).trans rfl; have hcz38_1 : w36.cell? ⟨gb102, 1, none⟩ = some (.int .i64 0) := (blk_cell BK102.out 1).trans rfl; have hcz38_2 : w36.cell? ⟨gb102, 2, none⟩ = some (.string (⟨#[]⟩ : ByteArray)) := (blk_cell BK102.out 2).trans rfl; have hfz38_0 := blk_frozen BK102.out 0; have hfz38_1 := blk_frozen BK102.out 1; have hfz38_2 := blk_frozen BK102.out 2; have p7 : 0 ≤ (a1 : Int) := of_decide_eq_true (by first | (with_reducible assumption) | assumption); have q7 : a1 < (a0.size : Int) := of_decide_eq_true (by first | (with_reducible assumption) | assumption); have hx7 := bt_at a0 a1; replace p7 := eq_true p7; replace q7 := eq_true q7) | ((with_reducible refine gate_callee (f := 85) rfl ?_); refine goesL_ (some 19) rfl rfl Tryz.func85 (by kernel_rfl) rfl #[.int .u8 (bt a0 a1)] rfl (by (try simp only [List.map_toArray, List.map_cons, List.map_nil]); first | done | rfl | (simp only [List.length_drop, List.length_take]; rfl)) ?_; (with_reducible refine (spoondriftref05_letter.calls (bt a0 a1) false _ A8.out).mono ?_); rintro e w' ⟨rfl, ⟨nd, rfl⟩⟩; refine ⟨_, rfl, ?_⟩; have p32 : 0 ≤ (a1 : Int) := of_decide_eq_true (by first | (with_reducible assumption) | assumption); have q32 : a1 < (a0.size : Int) := of_decide_eq_true (by first | (with_reducible assumption) | assumption); have hx32 := bt_at a0 a1; replace p32 := eq_true p32; replace q32 := eq_true q32) | ((with_reducible refine gate_callee (f := 86) rfl ?_); refine goesL_ (some 50) rfl rfl Tryz.func86 (by kernel_rfl) rfl #[.int .u8 (bt a0 a1)] rfl (by (try simp only [List.map_toArray, List.map_cons, List.map_nil]); first | done | rfl | (simp only [List.length_drop, List.length_take]; rfl)) ?_; (with_reducible refine (spoondriftref05_digit.calls (bt a0 a1) true _ A33.out).mono ?_); rintro e w' ⟨rfl, ⟨nd, rfl⟩⟩; refine ⟨_, rfl, ?_⟩))
          (try simp only [Act.put, List.setIfInBounds_toArray, List.set_cons_zero, List.set_cons_succ])
          go_loopg [12] k (fun kq v12 w' => ∃ (x12_1 : Int) (x102000_1 : Int) (x102001_1 : Int) (x102002_1 : ByteArray) (x103002_1 : ByteArray), v12 = .int .i64 x12_1 ∧ Aside0 (spoondriftref05_Cut.l1 kq a0 a1 a2 x12_1 a1 2 x103002_1 = some (r1, r2, r3, r4)) ∧ Aside0 (kq ≤ k) ∧ Aside0 (w'.heap[gb101]? = some (.cells #[.int .i64 x102000_1, .int .i64 x102001_1, .string x102002_1] 34 (0, 0))) ∧ Aside0 (w'.heap[gb102]? = some (.cells #[.int .i64 a1, .int .i64 2, .string x103002_1] 34 (0, 0))) ∧ Aside0 (Below w.heap.size w w'))
          case atStart => exact ⟨(a1), (0), (0), ((⟨#[]⟩ : ByteArray)), ((⟨#[]⟩ : ByteArray)), (by first | rfl | (simp; done) | (simp [*]; done)), H', ⟨Nat.le_refl _⟩, ⟨by (with_reducible repeat (first | refine blk_drewN ?_ _ | refine blk_drew ?_ | refine blk_alloc ?_ _)); refine blk_far ?_ NB101_102.out _; (with_reducible repeat (first | refine blk_drewN ?_ _ | refine blk_drew ?_ | refine blk_alloc ?_ _)); refine blk_far ?_ NB101_102.out _; (with_reducible repeat (first | refine blk_drewN ?_ _ | refine blk_drew ?_ | refine blk_alloc ?_ _)); refine blk_far ?_ NB101_102.out _; (with_reducible repeat (first | refine blk_drewN ?_ _ | refine blk_drew ?_ | refine blk_alloc ?_ _)); refine blk_far ?_ NB101_102.out _; (with_reducible repeat (first | refine blk_drewN ?_ _ | refine blk_drew ?_ | refine blk_alloc ?_ _)); exact BK101.out⟩, ⟨by (with_reducible repeat (first | refine blk_drewN ?_ _ | refine blk_drew ?_ | refine blk_alloc ?_ _)); refine blk_put (cs := #[.int .i64 a1, .int .i64 0, .string (⟨#[]⟩ : ByteArray)]) ?_ 1 _ rfl; (with_reducible repeat (first | refine blk_drewN ?_ _ | refine blk_drew ?_ | refine blk_alloc ?_ _)); refine blk_put (cs := #[.int .i64 a1, .int .i64 0, .string (⟨#[]⟩ : ByteArray)]) ?_ 2 _ rfl; (with_reducible repeat (first | refine blk_drewN ?_ _ | refine blk_drew ?_ | refine blk_alloc ?_ _)); refine blk_put (cs := #[.int .i64 a1, .int .i64 0, .string (⟨#[]⟩ : ByteArray)]) ?_ 1 _ rfl; (with_reducible repeat (first | refine blk_drewN ?_ _ | refine blk_drew ?_ | refine blk_alloc ?_ _)); refine blk_put (cs := #[.int .i64 0, .int .i64 0, .string (⟨#[]⟩ : ByteArray)]) ?_ 0 _ rfl; (with_reducible repeat (first | refine blk_drewN ?_ _ | refine blk_drew ?_ | refine blk_alloc ?_ _)); exact BK102.out⟩, ⟨by repeat (first | (with_reducible first | exact HB.out | apply below_alloc | apply pw_below_drewN | apply below_drew1 | refine below_set ?_ GE101.out | refine below_set ?_ GE102.out) | exact HB.out)⟩⟩
          case round =>
            clear H'
            try clear c1
            try clear p1
            try clear q1
            try clear hx1
            try clear c2
            try clear p2
            try clear c3
            try clear p3
            try clear q3
            try clear hx3
            try clear c5
            try clear c5b0
            try clear c6
            try clear c6b0
            try clear p6
            try clear p7
            try clear q7
            try clear hx7
            try clear c8
            try clear c9
            try clear c12
            try clear c15
            try clear c15b0
            try clear c16
            try clear c16b0
            try clear p17
            try clear q17
            try clear hx17
            try clear c19
            try clear c20
            try clear c20b0
            try clear c20b1
            try clear c21
            try clear c24
            try clear c24b0
            try clear c24b1
            try clear c25
            try clear c25b0
            try clear c25b1
            try clear c26
            try clear c26b0
            try clear c26b1
            try clear c27
            try clear c29
            try clear p32
            try clear q32
            try clear hx32
            try clear c34
            try clear c37
            try clear hcz13_0
            try clear hcz13_1
            try clear hcz13_2
            try clear hcz22_0
            try clear hcz22_1
            try clear hcz22_2
            try clear hcz23_0
            try clear hcz23_1
            try clear hcz23_2
            try clear hcz28_0
            try clear hcz28_1
            try clear hcz28_2
            try clear hcz30_0
            try clear hcz30_1
            try clear hcz30_2
            try clear hcz31_0
            try clear hcz31_1
            try clear hcz31_2
            try clear hcz38_0
            try clear hcz38_1
            try clear hcz38_2
            try clear hfz13_0
            try clear hfz13_1
            try clear hfz13_2
            try clear hfz22_0
            try clear hfz22_1
            try clear hfz22_2
            try clear hfz23_0
            try clear hfz23_1
            try clear hfz23_2
            try clear hfz28_0
            try clear hfz28_1
            try clear hfz28_2
            try clear hfz30_0
            try clear hfz30_1
            try clear hfz30_2
            try clear hfz31_0
            try clear hfz31_1
            try clear hfz31_2
            try clear hfz38_0
            try clear hfz38_1
            try clear hfz38_2
            try clear p1
            try clear p17
            try clear p2
            try clear p32
            try clear p7
            try clear q1
            try clear q17
            try clear q32
            try clear q7
            obtain ⟨x12_1, x102000_1, x102001_1, x102002_1, x103002_1, rfl, HA, HK1, BK101, BK102, HB⟩ := hrel
            cases gk with
            | zero => exact absurd HA.out (by simp [spoondriftref05_Cut.l1])
            | succ k1 =>
              have H := HA.out
              clear HA
              simp only [spoondriftref05_Cut.l1] at H
              have HC39 := Aside0.mk H
              clear H
              go_upto_region 14 with (fail)
              go_cut [62] (fun v62 wc => ∃ (kq : Nat) (x62_38 : Bool), v62 = .bool x62_38 ∧ Aside0 (spoondriftref05_Cut.j3 kq a0 a1 a2 x12_1 x62_38 a1 2 x103002_1 = some (r1, r2, r3, r4)) ∧ Aside0 (kq ≤ k1) ∧ Aside0 (wc.heap[gb101]? = some (.cells #[.int .i64 x102000_1, .int .i64 x102001_1, .string x102002_1] 34 (0, 0))) ∧ Aside0 (wc.heap[gb102]? = some (.cells #[.int .i64 a1, .int .i64 2, .string x103002_1] 34 (0, 0))) ∧ Aside0 (Below w.heap.size w wc))
              case first =>
                have H := HC39.out
                clear HC39
                by_cases c40 : x12_1 < (a0.size : Int)
                · rw [if_pos c40] at H
                  have c40b0 : decide (x12_1 < (a0.size : Int)) = true := decide_eq_true c40
                  clear c40
                  (first | rw [c40b0] | (simp only [i64_w, i32_w]; rw [c40b0]) | skip)
                  by_cases c41 : 0 ≤ x12_1
                  · rw [if_pos c41] at H
                    have c41b0 : decide (0 ≤ x12_1) = true := decide_eq_true c41
                    clear c41
                    replace H := Option.bind_eq_some_iff.mp H
                    obtain ⟨t106, A430, H⟩ := H
                    replace H : (spoondriftref05_Cut.j3 k1 a0 a1 a2 x12_1 t106 a1 2 x103002_1) = some (r1, r2, r3, r4) := H
                    have A43 := Aside0.mk A430
                    clear A430
                    have H' := Aside0.mk H
                    clear H
                    have p42 : 0 ≤ (x12_1 : Int) := of_decide_eq_true (by first | (with_reducible assumption) | assumption)
                    have q42 : x12_1 < (a0.size : Int) := of_decide_eq_true (by first | (with_reducible assumption) | assumption)
                    have hx42 := bt_at a0 x12_1
                    replace p42 := eq_true p42
                    replace q42 := eq_true q42
                    go_wp2_with (first | (go_at_call 86; (with_reducible refine (spoondriftref05_digit.calls (bt a0 x12_1) t106 _ A43.out).mono ?_); rintro e w' ⟨rfl, ⟨nd, rfl⟩⟩))
                    go_meet
                    case rel => exact ⟨_, (t106), (by first | rfl | (simp; done) | (simp [*]; done)), H', ⟨by have := HK1.out; first | omega | exact Nat.le_refl _⟩, ⟨by (with_reducible repeat (first | refine blk_drewN ?_ _ | refine blk_drew ?_ | refine blk_alloc ?_ _)); exact BK101.out⟩, ⟨by (with_reducible repeat (first | refine blk_drewN ?_ _ | refine blk_drew ?_ | refine blk_alloc ?_ _)); exact BK102.out⟩, ⟨by repeat (first | (with_reducible first | exact HB.out | apply below_alloc | apply pw_below_drewN | apply below_drew1 | refine below_set ?_ GE101.out | refine below_set ?_ GE102.out) | exact HB.out)⟩⟩
                  · rw [if_neg c41] at H
                    exact absurd H (by simp)
                · rw [if_neg c40] at H
                  have c40b0 : decide (x12_1 < (a0.size : Int)) = false := decide_eq_false c40
                  clear c40
                  (first | rw [c40b0] | (simp only [i64_w, i32_w]; rw [c40b0]) | skip)
                  have H' := Aside0.mk H
                  clear H
                  go_wp2
                  go_meet
                  case rel => exact ⟨_, (false), (by first | rfl | (simp; done) | (simp [*]; done)), H', ⟨by have := HK1.out; first | omega | exact Nat.le_refl _⟩, ⟨by (with_reducible repeat (first | refine blk_drewN ?_ _ | refine blk_drew ?_ | refine blk_alloc ?_ _)); exact BK101.out⟩, ⟨by (with_reducible repeat (first | refine blk_drewN ?_ _ | refine blk_drew ?_ | refine blk_alloc ?_ _)); exact BK102.out⟩, ⟨by repeat (first | (with_reducible first | exact HB.out | apply below_alloc | apply pw_below_drewN | apply below_drew1 | refine below_set ?_ GE101.out | refine below_set ?_ GE102.out) | exact HB.out)⟩⟩
              case rest =>
                clear HC39
                try clear c1
                try clear p1
                try clear q1
                try clear hx1
                try clear c2
                try clear p2
                try clear c3
                try clear p3
                try clear q3
                try clear hx3
                try clear c4
                try clear p4
                try clear q4
                try clear hx4
                try clear c5
                try clear c5b0
                try clear c6
                try clear c6b0
                try clear p6
                try clear p7
                try clear q7
                try clear hx7
                try clear c8
                try clear c9
                try clear c12
                try clear c15
                try clear c15b0
                try clear c16
                try clear c16b0
                try clear p17
                try clear q17
                try clear hx17
                try clear c19
                try clear c20
                try clear c20b0
                try clear c20b1
                try clear c21
                try clear c24
                try clear c24b0
                try clear c24b1
                try clear c25
                try clear c25b0
                try clear c25b1
                try clear c26
                try clear c26b0
                try clear c26b1
                try clear c27
                try clear c29
                try clear p32
                try clear q32
                try clear hx32
                try clear c34
                try clear c37
                try clear c40
                try clear c40b0
                try clear c41
                try clear c41b0
                try clear p42
                try clear q42
                try clear hx42
                try clear hcz13_0
                try clear hcz13_1
                try clear hcz13_2
                try clear hcz22_0
                try clear hcz22_1
                try clear hcz22_2
                try clear hcz23_0
                try clear hcz23_1
                try clear hcz23_2
                try clear hcz28_0
                try clear hcz28_1
                try clear hcz28_2
                try clear hcz30_0
                try clear hcz30_1
                try clear hcz30_2
                try clear hcz31_0
                try clear hcz31_1
                try clear hcz31_2
                try clear hcz38_0
                try clear hcz38_1
                try clear hcz38_2
                try clear hfz13_0
                try clear hfz13_1
                try clear hfz13_2
                try clear hfz22_0
                try clear hfz22_1
                try clear hfz22_2
                try clear hfz23_0
                try clear hfz23_1
                try clear hfz23_2
                try clear hfz28_0
                try clear hfz28_1
                try clear hfz28_2
                try clear hfz30_0
                try clear hfz30_1
                try clear hfz30_2
                try clear hfz31_0
                try clear hfz31_1
                try clear hfz31_2
                try clear hfz38_0
                try clear hfz38_1
                try clear hfz38_2
                try clear p1
                try clear p17
                try clear p2
                try clear p3
                try clear p32
                try clear p42
                try clear p6
                try clear p7
                try clear q1
                try clear q17
                try clear q3
                try clear q32
                try clear q42
                try clear q7
                obtain ⟨kq, x62_38, rfl, HA, HJ38, BK101, BK102, HB⟩ := hcut
                cases kq with
                | zero => exact absurd HA.out (by simp [spoondriftref05_Cut.j3])
                | succ kj38 =>
                  have H := HA.out
                  clear HA
                  simp only [spoondriftref05_Cut.j3] at H
                  by_cases c44 : x62_38 = true
                  · subst c44
                    have H1 : (if (x103002_1.size : Int) = a2 then (some (a1, 2, x103002_1, x12_1)) else (if x103002_1.toList = ([48] : List UInt8) then (some (a1, 2, x103002_1, x12_1)) else (if 0 ≤ a1 then (if a1 ≤ (wrap64 (x12_1 + 1)) then (if (wrap64 (x12_1 + 1)) ≤ (a0.size : Int) then (spoondriftref05_Cut.l1 kj38 a0 a1 a2 (wrap64 (x12_1 + 1)) a1 2 (a0.extract (a1 : Int).toNat ((wrap64 (x12_1 + 1)) : Int).toNat)) else (none)) else (none)) else (none)))) = some (r1, r2, r3, r4) := by rw [if_pos rfl] at H; exact H
                    clear H
                    have H := H1
                    clear H1
                    by_cases c45 : (x103002_1.size : Int) = a2
                    · rw [if_pos c45] at H
                      have c45b0 : ((x103002_1.size : Int) == a2) = true := beq_iff_eq.mpr c45
                      have c45b1 : ((x103002_1.size : Int) != a2) = false := bne_eq_false_iff_eq.mpr c45
                      clear c45
                      simp only [Option.some.injEq, Prod.mk.injEq] at H
                      obtain ⟨rfl, rfl, rfl, rfl⟩ := H
                      have hnb46 := NB102_101.out
                      have hnc46 := NB101_102.out
                      have hcz47_0 : wc.cell? ⟨gb102, 0, none⟩ = some (.int .i64 a1) := (blk_cell BK102.out 0).trans rfl
                      have hcz47_1 : wc.cell? ⟨gb102, 1, none⟩ = some (.int .i64 2) := (blk_cell BK102.out 1).trans rfl
                      have hcz47_2 : wc.cell? ⟨gb102, 2, none⟩ = some (.string x103002_1) := (blk_cell BK102.out 2).trans rfl
                      have hfz47_0 := blk_frozen BK102.out 0
                      have hfz47_1 := blk_frozen BK102.out 1
                      have hfz47_2 := blk_frozen BK102.out 2
                      have hcz48_0 : wc.cell? ⟨gb101, 0, none⟩ = some (.int .i64 x102000_1) := (blk_cell BK101.out 0).trans rfl
                      have hcz48_1 : wc.cell? ⟨gb101, 1, none⟩ = some (.int .i64 x102001_1) := (blk_cell BK101.out 1).trans rfl
                      have hcz48_2 : wc.cell? ⟨gb101, 2, none⟩ = some (.string x102002_1) := (blk_cell BK101.out 2).trans rfl
                      have hfz48_0 := blk_frozen BK101.out 0
                      have hfz48_1 := blk_frozen BK101.out 1
                      have hfz48_2 := blk_frozen BK101.out 2
                      go_wp2
                      refine bodyPost_ret (results_ct rfl _ _ gb101 34 #[.int .i64 a1, .int .i64 2, .string x103002_1] (0, 0) _ rfl (by (with_reducible repeat (first | refine blk_drewN ?_ _ | refine blk_drew ?_ | refine blk_alloc ?_ _)); refine blk_put (cs := #[.int .i64 a1, .int .i64 2, .string x102002_1]) ?_ 2 _ rfl; (with_reducible repeat (first | refine blk_drewN ?_ _ | refine blk_drew ?_ | refine blk_alloc ?_ _)); refine blk_put (cs := #[.int .i64 a1, .int .i64 x102001_1, .string x102002_1]) ?_ 1 _ rfl; (with_reducible repeat (first | refine blk_drewN ?_ _ | refine blk_drew ?_ | refine blk_alloc ?_ _)); refine blk_put (cs := #[.int .i64 x102000_1, .int .i64 x102001_1, .string x102002_1]) ?_ 0 _ rfl; (with_reducible repeat (first | refine blk_drewN ?_ _ | refine blk_drew ?_ | refine blk_alloc ?_ _)); exact BK101.out) Tryz.underlying34 rfl (by kernel_rfl)) rfl ?_
                      exact ⟨by first | rfl | (simp [errW_none, errW_some] <;> rfl) | (simp [*, errW_none, errW_some] <;> rfl), by repeat (first | (with_reducible first | exact HB.out | apply below_alloc | apply pw_below_drewN | apply below_drew1 | refine below_set ?_ GE101.out | refine below_set ?_ GE102.out) | exact HB.out)⟩
                    · rw [if_neg c45] at H
                      have c45b0 : ((x103002_1.size : Int) == a2) = false := beq_eq_false_iff_ne.mpr c45
                      have c45b1 : ((x103002_1.size : Int) != a2) = true := bne_iff_ne.mpr c45
                      by_cases c49 : x103002_1.toList = ([48] : List UInt8)
                      · rw [if_pos c49] at H
                        have c49b0 : (x103002_1.toList == ([48] : List UInt8)) = true := beq_iff_eq.mpr c49
                        have c49b1 : (x103002_1.toList != ([48] : List UInt8)) = false := bne_eq_false_iff_eq.mpr c49
                        clear c49
                        simp only [Option.some.injEq, Prod.mk.injEq] at H
                        obtain ⟨rfl, rfl, rfl, rfl⟩ := H
                        have hnb50 := NB102_101.out
                        have hnc50 := NB101_102.out
                        have hcz51_0 : wc.cell? ⟨gb102, 0, none⟩ = some (.int .i64 a1) := (blk_cell BK102.out 0).trans rfl
                        have hcz51_1 : wc.cell? ⟨gb102, 1, none⟩ = some (.int .i64 2) := (blk_cell BK102.out 1).trans rfl
                        have hcz51_2 : wc.cell? ⟨gb102, 2, none⟩ = some (.string x103002_1) := (blk_cell BK102.out 2).trans rfl
                        have hfz51_0 := blk_frozen BK102.out 0
                        have hfz51_1 := blk_frozen BK102.out 1
                        have hfz51_2 := blk_frozen BK102.out 2
                        have hcz52_0 : wc.cell? ⟨gb101, 0, none⟩ = some (.int .i64 x102000_1) := (blk_cell BK101.out 0).trans rfl
                        have hcz52_1 : wc.cell? ⟨gb101, 1, none⟩ = some (.int .i64 x102001_1) := (blk_cell BK101.out 1).trans rfl
                        have hcz52_2 : wc.cell? ⟨gb101, 2, none⟩ = some (.string x102002_1) := (blk_cell BK101.out 2).trans rfl
                        have hfz52_0 := blk_frozen BK101.out 0
                        have hfz52_1 := blk_frozen BK101.out 1
                        have hfz52_2 := blk_frozen BK101.out 2
                        go_wp2
                        refine bodyPost_ret (results_ct rfl _ _ gb101 34 #[.int .i64 a1, .int .i64 2, .string x103002_1] (0, 0) _ rfl (by (with_reducible repeat (first | refine blk_drewN ?_ _ | refine blk_drew ?_ | refine blk_alloc ?_ _)); refine blk_put (cs := #[.int .i64 a1, .int .i64 2, .string x102002_1]) ?_ 2 _ rfl; (with_reducible repeat (first | refine blk_drewN ?_ _ | refine blk_drew ?_ | refine blk_alloc ?_ _)); refine blk_put (cs := #[.int .i64 a1, .int .i64 x102001_1, .string x102002_1]) ?_ 1 _ rfl; (with_reducible repeat (first | refine blk_drewN ?_ _ | refine blk_drew ?_ | refine blk_alloc ?_ _)); refine blk_put (cs := #[.int .i64 x102000_1, .int .i64 x102001_1, .string x102002_1]) ?_ 0 _ rfl; (with_reducible repeat (first | refine blk_drewN ?_ _ | refine blk_drew ?_ | refine blk_alloc ?_ _)); exact BK101.out) Tryz.underlying34 rfl (by kernel_rfl)) rfl ?_
                        exact ⟨by first | rfl | (simp [errW_none, errW_some] <;> rfl) | (simp [*, errW_none, errW_some] <;> rfl), by repeat (first | (with_reducible first | exact HB.out | apply below_alloc | apply pw_below_drewN | apply below_drew1 | refine below_set ?_ GE101.out | refine below_set ?_ GE102.out) | exact HB.out)⟩
                      · rw [if_neg c49] at H
                        have c49b0 : (x103002_1.toList == ([48] : List UInt8)) = false := beq_eq_false_iff_ne.mpr c49
                        have c49b1 : (x103002_1.toList != ([48] : List UInt8)) = true := bne_iff_ne.mpr c49
                        by_cases c53 : 0 ≤ a1
                        · rw [if_pos c53] at H
                          have c53b0 := eq_true c53
                          have c53b1 : decide (0 ≤ a1) = true := decide_eq_true c53
                          clear c53
                          by_cases c54 : a1 ≤ (wrap64 (x12_1 + 1))
                          · rw [if_pos c54] at H
                            have c54b0 := eq_true c54
                            have c54b1 : decide (a1 ≤ (wrap64 (x12_1 + 1))) = true := decide_eq_true c54
                            by_cases c55 : (wrap64 (x12_1 + 1)) ≤ (a0.size : Int)
                            · rw [if_pos c55] at H
                              have c55b0 := eq_true c55
                              have c55b1 : decide ((wrap64 (x12_1 + 1)) ≤ (a0.size : Int)) = true := decide_eq_true c55
                              have H' := Aside0.mk H
                              clear H
                              have hnb56 := NB102_101.out
                              have hnc56 := NB101_102.out
                              have hcz57_0 : wc.cell? ⟨gb102, 0, none⟩ = some (.int .i64 a1) := (blk_cell BK102.out 0).trans rfl
                              have hcz57_1 : wc.cell? ⟨gb102, 1, none⟩ = some (.int .i64 2) := (blk_cell BK102.out 1).trans rfl
                              have hcz57_2 : wc.cell? ⟨gb102, 2, none⟩ = some (.string x103002_1) := (blk_cell BK102.out 2).trans rfl
                              have hfz57_0 := blk_frozen BK102.out 0
                              have hfz57_1 := blk_frozen BK102.out 1
                              have hfz57_2 := blk_frozen BK102.out 2
                              go_wp2
                              go_roundg kj38
                              case measure => have := HK1.out; have := HJ38.out; omega
                              case rel => exact ⟨(wrap64 (x12_1 + 1)), (x102000_1), (x102001_1), (x102002_1), (a0.extract (a1 : Int).toNat ((wrap64 (x12_1 + 1)) : Int).toNat), (by first | rfl | (simp; done) | (simp [*]; done)), H', ⟨by have := HK1.out; have := HJ38.out; omega⟩, ⟨by (with_reducible repeat (first | refine blk_drewN ?_ _ | refine blk_drew ?_ | refine blk_alloc ?_ _)); refine blk_far ?_ NB101_102.out _; (with_reducible repeat (first | refine blk_drewN ?_ _ | refine blk_drew ?_ | refine blk_alloc ?_ _)); exact BK101.out⟩, ⟨by (with_reducible repeat (first | refine blk_drewN ?_ _ | refine blk_drew ?_ | refine blk_alloc ?_ _)); refine blk_put (cs := #[.int .i64 a1, .int .i64 2, .string x103002_1]) ?_ 2 _ rfl; (with_reducible repeat (first | refine blk_drewN ?_ _ | refine blk_drew ?_ | refine blk_alloc ?_ _)); exact BK102.out⟩, ⟨by repeat (first | (with_reducible first | exact HB.out | apply below_alloc | apply pw_below_drewN | apply below_drew1 | refine below_set ?_ GE101.out | refine below_set ?_ GE102.out) | exact HB.out)⟩⟩
                            · rw [if_neg c55] at H
                              exact absurd H (by simp)
                          · rw [if_neg c54] at H
                            exact absurd H (by simp)
                        · rw [if_neg c53] at H
                          exact absurd H (by simp)
                  · replace c44 := Bool.eq_false_iff.mpr c44
                    subst c44
                    have H1 : (some (a1, 2, x103002_1, (-1))) = some (r1, r2, r3, r4) := by rw [if_neg (show ¬ (false = true) by decide)] at H; exact H
                    clear H
                    have H := H1
                    clear H1
                    simp only [Option.some.injEq, Prod.mk.injEq] at H
                    obtain ⟨rfl, rfl, rfl, rfl⟩ := H
                    have hnb58 := NB102_101.out
                    have hnc58 := NB101_102.out
                    have hcz59_0 : wc.cell? ⟨gb102, 0, none⟩ = some (.int .i64 a1) := (blk_cell BK102.out 0).trans rfl
                    have hcz59_1 : wc.cell? ⟨gb102, 1, none⟩ = some (.int .i64 2) := (blk_cell BK102.out 1).trans rfl
                    have hcz59_2 : wc.cell? ⟨gb102, 2, none⟩ = some (.string x103002_1) := (blk_cell BK102.out 2).trans rfl
                    have hfz59_0 := blk_frozen BK102.out 0
                    have hfz59_1 := blk_frozen BK102.out 1
                    have hfz59_2 := blk_frozen BK102.out 2
                    have hcz60_0 : wc.cell? ⟨gb101, 0, none⟩ = some (.int .i64 x102000_1) := (blk_cell BK101.out 0).trans rfl
                    have hcz60_1 : wc.cell? ⟨gb101, 1, none⟩ = some (.int .i64 x102001_1) := (blk_cell BK101.out 1).trans rfl
                    have hcz60_2 : wc.cell? ⟨gb101, 2, none⟩ = some (.string x102002_1) := (blk_cell BK101.out 2).trans rfl
                    have hfz60_0 := blk_frozen BK101.out 0
                    have hfz60_1 := blk_frozen BK101.out 1
                    have hfz60_2 := blk_frozen BK101.out 2
                    go_wp2
                    refine bodyPost_ret (results_ct rfl _ _ gb101 34 #[.int .i64 a1, .int .i64 2, .string x103002_1] (0, 0) _ rfl (by (with_reducible repeat (first | refine blk_drewN ?_ _ | refine blk_drew ?_ | refine blk_alloc ?_ _)); refine blk_put (cs := #[.int .i64 a1, .int .i64 2, .string x102002_1]) ?_ 2 _ rfl; (with_reducible repeat (first | refine blk_drewN ?_ _ | refine blk_drew ?_ | refine blk_alloc ?_ _)); refine blk_put (cs := #[.int .i64 a1, .int .i64 x102001_1, .string x102002_1]) ?_ 1 _ rfl; (with_reducible repeat (first | refine blk_drewN ?_ _ | refine blk_drew ?_ | refine blk_alloc ?_ _)); refine blk_put (cs := #[.int .i64 x102000_1, .int .i64 x102001_1, .string x102002_1]) ?_ 0 _ rfl; (with_reducible repeat (first | refine blk_drewN ?_ _ | refine blk_drew ?_ | refine blk_alloc ?_ _)); exact BK101.out) Tryz.underlying34 rfl (by kernel_rfl)) rfl ?_
                    exact ⟨by first | rfl | (simp [errW_none, errW_some] <;> rfl) | (simp [*, errW_none, errW_some] <;> rfl), by repeat (first | (with_reducible first | exact HB.out | apply below_alloc | apply pw_below_drewN | apply below_drew1 | refine below_set ?_ GE101.out | refine below_set ?_ GE102.out) | exact HB.out)⟩
        · replace c34 := Bool.eq_false_iff.mpr c34
          subst c34
          have H1 : (spoondriftref05_Cut.l2 k a0 a1 a3 0 a1 0 (⟨#[]⟩ : ByteArray)) = some (r1, r2, r3, r4) := by rw [if_neg (show ¬ (false = true) by decide)] at H; exact H
          clear H
          have H := H1
          clear H1
          have H' := Aside0.mk H
          clear H
          go_enter Tryz.func61, Tryz.ntmps61
          go_wp2_with (first | ((with_reducible refine gate_dst (N := 8) rfl ?_); refine box_event ?hg (N := 8) ?hd (cs := #[.int .i64 0, .int .i64 0, .string (⟨#[]⟩ : ByteArray)]) (t := 34) ?hr ?_; (case hd => rfl); (case hg => rfl); (case hr => first | (go_simp; done) | (go_simp; rfl)); intro gb101 hg w61 hbox hb; have n0_ := Aside0.mk (below_step (by repeat (first | (with_reducible first | exact HB.out | apply below_alloc | apply pw_below_drewN | apply below_drew1) | exact HB.out)) hb); have n1_ := Aside0.mk (hbox); have n2_ := Aside0.mk ((by rw [hg]; exact (below_size (by repeat (first | (with_reducible first | exact HB.out | apply below_alloc | apply pw_below_drewN | apply below_drew1) | exact HB.out))) : w.heap.size ≤ gb101)); have n3_ := Aside0.mk ((by rw [hg]; exact (below_size (by repeat (first | (with_reducible first | exact HB.out | apply below_alloc | apply pw_below_drewN | apply below_drew1) | exact HB.out))) : w.heap.size ≤ gb101)); clear HB; have HB := n0_; have BK101 := n1_; have GW101 := n2_; have GE101 := n3_; clear n0_ n1_ n2_ n3_; clear hb hbox hg) | ((with_reducible refine gate_dst (N := 10) rfl ?_); refine box_event ?hg (N := 10) ?hd (cs := #[.int .i64 0, .int .i64 0, .string (⟨#[]⟩ : ByteArray)]) (t := 34) ?hr ?_; (case hd => rfl); (case hg => rfl); (case hr => first | (go_simp; done) | (go_simp; rfl)); intro gb102 hg w62 hbox hb; have n0_ := Aside0.mk (blk_below (g := gb101) (o := .cells #[.int .i64 0, .int .i64 0, .string (⟨#[]⟩ : ByteArray)] 34 (0, 0)) (by (with_reducible repeat (first | refine blk_drewN ?_ _ | refine blk_drew ?_ | refine blk_alloc ?_ _)); exact BK101.out) hb); have n1_ := Aside0.mk (below_step (by repeat (first | (with_reducible first | exact HB.out | apply below_alloc | apply pw_below_drewN | apply below_drew1 | refine below_set ?_ GE101.out) | exact HB.out)) hb); have n2_ := Aside0.mk (hbox); have n3_ := Aside0.mk ((by rw [hg]; exact (below_size (by repeat (first | (with_reducible first | exact HB.out | apply below_alloc | apply pw_below_drewN | apply below_drew1 | refine below_set ?_ GE101.out) | exact HB.out))) : w.heap.size ≤ gb102)); have n4_ := Aside0.mk ((by rw [hg]; exact (below_size (by repeat (first | (with_reducible first | exact HB.out | apply below_alloc | apply pw_below_drewN | apply below_drew1 | refine below_set ?_ GE101.out) | exact HB.out))) : w.heap.size ≤ gb102)); have n5_ := Aside0.mk ((by rw [hg]; exact Nat.ne_of_lt (blk_lt (g := gb101) (o := .cells #[.int .i64 0, .int .i64 0, .string (⟨#[]⟩ : ByteArray)] 34 (0, 0)) (by (with_reducible repeat (first | refine blk_drewN ?_ _ | refine blk_drew ?_ | refine blk_alloc ?_ _)); exact BK101.out)) : gb101 ≠ gb102)); have n6_ := Aside0.mk ((by rw [hg]; exact Nat.ne_of_gt (blk_lt (g := gb101) (o := .cells #[.int .i64 0, .int .i64 0, .string (⟨#[]⟩ : ByteArray)] 34 (0, 0)) (by (with_reducible repeat (first | refine blk_drewN ?_ _ | refine blk_drew ?_ | refine blk_alloc ?_ _)); exact BK101.out)) : gb102 ≠ gb101)); clear BK101; clear HB; have BK101 := n0_; have HB := n1_; have BK102 := n2_; have GW102 := n3_; have GE102 := n4_; have NB101_102 := n5_; have NB102_101 := n6_; clear n0_ n1_ n2_ n3_ n4_ n5_ n6_; clear hb hbox hg; have hnb63 := NB102_101.out; have hnc63 := NB101_102.out; have hcz64_0 : w62.cell? ⟨gb102, 0, none⟩ = some (.int .i64 0) := (blk_cell BK102.out 0).trans rfl; have hcz64_1 : w62.cell? ⟨gb102, 1, none⟩ = some (.int .i64 0) := (blk_cell BK102.out 1).trans rfl; have hcz64_2 : w62.cell? ⟨gb102, 2, none⟩ = some (.string (⟨#[]⟩ : ByteArray)) := (blk_cell BK102.out 2).trans rfl; have hfz64_0 := blk_frozen BK102.out 0; have hfz64_1 := blk_frozen BK102.out 1; have hfz64_2 := blk_frozen BK102.out 2; have p7 : 0 ≤ (a1 : Int) := of_decide_eq_true (by first | (with_reducible assumption) | assumption); have q7 : a1 < (a0.size : Int) := of_decide_eq_true (by first | (with_reducible assumption) | assumption); have hx7 := bt_at a0 a1; replace p7 := eq_true p7; replace q7 := eq_true q7) | ((with_reducible refine gate_callee (f := 85) rfl ?_); refine goesL_ (some 19) rfl rfl Tryz.func85 (by kernel_rfl) rfl #[.int .u8 (bt a0 a1)] rfl (by (try simp only [List.map_toArray, List.map_cons, List.map_nil]); first | done | rfl | (simp only [List.length_drop, List.length_take]; rfl)) ?_; (with_reducible refine (spoondriftref05_letter.calls (bt a0 a1) false _ A8.out).mono ?_); rintro e w' ⟨rfl, ⟨nd, rfl⟩⟩; refine ⟨_, rfl, ?_⟩; have p32 : 0 ≤ (a1 : Int) := of_decide_eq_true (by first | (with_reducible assumption) | assumption); have q32 : a1 < (a0.size : Int) := of_decide_eq_true (by first | (with_reducible assumption) | assumption); have hx32 := bt_at a0 a1; replace p32 := eq_true p32; replace q32 := eq_true q32) | ((with_reducible refine gate_callee (f := 86) rfl ?_); refine goesL_ (some 50) rfl rfl Tryz.func86 (by kernel_rfl) rfl #[.int .u8 (bt a0 a1)] rfl (by (try simp only [List.map_toArray, List.map_cons, List.map_nil]); first | done | rfl | (simp only [List.length_drop, List.length_take]; rfl)) ?_; (with_reducible refine (spoondriftref05_digit.calls (bt a0 a1) false _ A33.out).mono ?_); rintro e w' ⟨rfl, ⟨nd, rfl⟩⟩; refine ⟨_, rfl, ?_⟩))
          (try simp only [Act.put, List.setIfInBounds_toArray, List.set_cons_zero, List.set_cons_succ])
          go_loopg [13] k (fun kq v13 w' => ∃ (x13_1 : Int) (x102000_1 : Int) (x102001_1 : Int) (x102002_1 : ByteArray) (x103001_1 : Int) (x103002_1 : ByteArray), v13 = .int .i64 x13_1 ∧ Aside0 (spoondriftref05_Cut.l2 kq a0 a1 a3 x13_1 a1 x103001_1 x103002_1 = some (r1, r2, r3, r4)) ∧ Aside0 (kq ≤ k) ∧ Aside0 (w'.heap[gb101]? = some (.cells #[.int .i64 x102000_1, .int .i64 x102001_1, .string x102002_1] 34 (0, 0))) ∧ Aside0 (w'.heap[gb102]? = some (.cells #[.int .i64 a1, .int .i64 x103001_1, .string x103002_1] 34 (0, 0))) ∧ Aside0 (Below w.heap.size w w'))
          case atStart => exact ⟨(0), (0), (0), ((⟨#[]⟩ : ByteArray)), (0), ((⟨#[]⟩ : ByteArray)), (by first | rfl | (simp; done) | (simp [*]; done)), H', ⟨Nat.le_refl _⟩, ⟨by (with_reducible repeat (first | refine blk_drewN ?_ _ | refine blk_drew ?_ | refine blk_alloc ?_ _)); refine blk_far ?_ NB101_102.out _; (with_reducible repeat (first | refine blk_drewN ?_ _ | refine blk_drew ?_ | refine blk_alloc ?_ _)); refine blk_far ?_ NB101_102.out _; (with_reducible repeat (first | refine blk_drewN ?_ _ | refine blk_drew ?_ | refine blk_alloc ?_ _)); refine blk_far ?_ NB101_102.out _; (with_reducible repeat (first | refine blk_drewN ?_ _ | refine blk_drew ?_ | refine blk_alloc ?_ _)); exact BK101.out⟩, ⟨by (with_reducible repeat (first | refine blk_drewN ?_ _ | refine blk_drew ?_ | refine blk_alloc ?_ _)); refine blk_put (cs := #[.int .i64 a1, .int .i64 0, .string (⟨#[]⟩ : ByteArray)]) ?_ 2 _ rfl; (with_reducible repeat (first | refine blk_drewN ?_ _ | refine blk_drew ?_ | refine blk_alloc ?_ _)); refine blk_put (cs := #[.int .i64 a1, .int .i64 0, .string (⟨#[]⟩ : ByteArray)]) ?_ 1 _ rfl; (with_reducible repeat (first | refine blk_drewN ?_ _ | refine blk_drew ?_ | refine blk_alloc ?_ _)); refine blk_put (cs := #[.int .i64 0, .int .i64 0, .string (⟨#[]⟩ : ByteArray)]) ?_ 0 _ rfl; (with_reducible repeat (first | refine blk_drewN ?_ _ | refine blk_drew ?_ | refine blk_alloc ?_ _)); exact BK102.out⟩, ⟨by repeat (first | (with_reducible first | exact HB.out | apply below_alloc | apply pw_below_drewN | apply below_drew1 | refine below_set ?_ GE101.out | refine below_set ?_ GE102.out) | exact HB.out)⟩⟩
          case round =>
            clear H'
            try clear c1
            try clear p1
            try clear q1
            try clear hx1
            try clear c2
            try clear p2
            try clear c3
            try clear p3
            try clear q3
            try clear hx3
            try clear c4
            try clear p4
            try clear q4
            try clear hx4
            try clear c5
            try clear c5b0
            try clear c6
            try clear c6b0
            try clear p6
            try clear p7
            try clear q7
            try clear hx7
            try clear c8
            try clear c9
            try clear c12
            try clear c15
            try clear c15b0
            try clear c16
            try clear c16b0
            try clear p17
            try clear q17
            try clear hx17
            try clear c19
            try clear c20
            try clear c20b0
            try clear c20b1
            try clear c21
            try clear c24
            try clear c24b0
            try clear c24b1
            try clear c25
            try clear c25b0
            try clear c25b1
            try clear c26
            try clear c26b0
            try clear c26b1
            try clear c27
            try clear c29
            try clear p32
            try clear q32
            try clear hx32
            try clear c34
            try clear c37
            try clear c40
            try clear c40b0
            try clear c41
            try clear c41b0
            try clear p42
            try clear q42
            try clear hx42
            try clear c44
            try clear c45
            try clear c45b0
            try clear c45b1
            try clear c46
            try clear c49
            try clear c49b0
            try clear c49b1
            try clear c50
            try clear c53
            try clear c53b0
            try clear c53b1
            try clear c54
            try clear c54b0
            try clear c54b1
            try clear c55
            try clear c55b0
            try clear c55b1
            try clear c56
            try clear c58
            try clear c61
            try clear c63
            try clear p64
            try clear hcz13_0
            try clear hcz13_1
            try clear hcz13_2
            try clear hcz22_0
            try clear hcz22_1
            try clear hcz22_2
            try clear hcz23_0
            try clear hcz23_1
            try clear hcz23_2
            try clear hcz28_0
            try clear hcz28_1
            try clear hcz28_2
            try clear hcz30_0
            try clear hcz30_1
            try clear hcz30_2
            try clear hcz31_0
            try clear hcz31_1
            try clear hcz31_2
            try clear hcz38_0
            try clear hcz38_1
            try clear hcz38_2
            try clear hcz47_0
            try clear hcz47_1
            try clear hcz47_2
            try clear hcz48_0
            try clear hcz48_1
            try clear hcz48_2
            try clear hcz51_0
            try clear hcz51_1
            try clear hcz51_2
            try clear hcz52_0
            try clear hcz52_1
            try clear hcz52_2
            try clear hcz57_0
            try clear hcz57_1
            try clear hcz57_2
            try clear hcz59_0
            try clear hcz59_1
            try clear hcz59_2
            try clear hcz60_0
            try clear hcz60_1
            try clear hcz60_2
            try clear hcz64_0
            try clear hcz64_1
            try clear hcz64_2
            try clear hfz13_0
            try clear hfz13_1
            try clear hfz13_2
            try clear hfz22_0
            try clear hfz22_1
            try clear hfz22_2
            try clear hfz23_0
            try clear hfz23_1
            try clear hfz23_2
            try clear hfz28_0
            try clear hfz28_1
            try clear hfz28_2
            try clear hfz30_0
            try clear hfz30_1
            try clear hfz30_2
            try clear hfz31_0
            try clear hfz31_1
            try clear hfz31_2
            try clear hfz38_0
            try clear hfz38_1
            try clear hfz38_2
            try clear hfz47_0
            try clear hfz47_1
            try clear hfz47_2
            try clear hfz48_0
            try clear hfz48_1
            try clear hfz48_2
            try clear hfz51_0
            try clear hfz51_1
            try clear hfz51_2
            try clear hfz52_0
            try clear hfz52_1
            try clear hfz52_2
            try clear hfz57_0
            try clear hfz57_1
            try clear hfz57_2
            try clear hfz59_0
            try clear hfz59_1
            try clear hfz59_2
            try clear hfz60_0
            try clear hfz60_1
            try clear hfz60_2
            try clear hfz64_0
            try clear hfz64_1
            try clear hfz64_2
            try clear p1
            try clear p17
            try clear p2
            try clear p3
            try clear p32
            try clear p4
            try clear p42
            try clear p6
            try clear p7
            try clear q1
            try clear q17
            try clear q3
            try clear q32
            try clear q4
            try clear q42
            try clear q7
            obtain ⟨x13_1, x102000_1, x102001_1, x102002_1, x103001_1, x103002_1, rfl, HA, HK1, BK101, BK102, HB⟩ := hrel
            cases gk with
            | zero => exact absurd HA.out (by simp [spoondriftref05_Cut.l2])
            | succ k1 =>
              have H := HA.out
              clear HA
              simp only [spoondriftref05_Cut.l2] at H
              by_cases c65 : x13_1 < (a3.size : Int)
              · rw [if_pos c65] at H
                have c65b0 : decide (x13_1 < (a3.size : Int)) = true := decide_eq_true c65
                clear c65
                by_cases c66 : 0 ≤ x13_1
                · rw [if_pos c66] at H
                  have c66b0 : decide (0 ≤ x13_1) = true := decide_eq_true c66
                  clear c66
                  by_cases c68 : 0 ≤ a1
                  · rw [if_pos c68] at H
                    have c68b0 : decide (0 ≤ a1) = true := decide_eq_true c68
                    clear c68
                    by_cases c69 : a1 < (a0.size : Int)
                    · rw [if_pos c69] at H
                      have c69b0 : decide (a1 < (a0.size : Int)) = true := decide_eq_true c69
                      clear c69
                      by_cases c71 : (bt a3 x13_1) = (bt a0 a1)
                      · rw [if_pos c71] at H
                        have c71b0 : ((bt a3 x13_1) == (bt a0 a1)) = true := beq_iff_eq.mpr c71
                        have c71b1 : ((bt a3 x13_1) != (bt a0 a1)) = false := bne_eq_false_iff_eq.mpr c71
                        clear c71
                        have c73b0 := eq_true (of_decide_eq_true (by first | (with_reducible assumption) | assumption) : 0 ≤ a1)
                        by_cases c74 : a1 ≤ (wrap64 (a1 + 1))
                        · rw [if_pos c74] at H
                          have c74b0 := eq_true c74
                          have c74b1 : decide (a1 ≤ (wrap64 (a1 + 1))) = true := decide_eq_true c74
                          by_cases c75 : (wrap64 (a1 + 1)) ≤ (a0.size : Int)
                          · rw [if_pos c75] at H
                            have c75b0 := eq_true c75
                            have c75b1 : decide ((wrap64 (a1 + 1)) ≤ (a0.size : Int)) = true := decide_eq_true c75
                            simp only [Option.some.injEq, Prod.mk.injEq] at H
                            obtain ⟨rfl, rfl, rfl, rfl⟩ := H
                            try go_wp2
                            have n0_ := Aside0.mk (blk_drew BK101.out)
                            have n1_ := Aside0.mk (blk_drew BK102.out)
                            have n2_ := Aside0.mk (below_drew1 HB.out)
                            clear BK101
                            clear BK102
                            clear HB
                            have BK101 := n0_
                            have BK102 := n1_
                            have HB := n2_
                            clear n0_ n1_ n2_
                            have p67 : 0 ≤ (x13_1 : Int) := of_decide_eq_true (by first | (with_reducible assumption) | assumption)
                            have q67 : x13_1 < (a3.size : Int) := of_decide_eq_true (by first | (with_reducible assumption) | assumption)
                            have hx67 := bt_at a3 x13_1
                            replace p67 := eq_true p67
                            replace q67 := eq_true q67
                            have p70 : 0 ≤ (a1 : Int) := of_decide_eq_true (by first | (with_reducible assumption) | assumption)
                            have q70 : a1 < (a0.size : Int) := of_decide_eq_true (by first | (with_reducible assumption) | assumption)
                            have hx70 := bt_at a0 a1
                            replace p70 := eq_true p70
                            replace q70 := eq_true q70
                            refine start_ (n := 7) (S := fun w' => True) (ds := []) #[false, false, false, false, false, false, false] (by kernel_rfl) rfl rfl trivial (fun hHeld => ?_)
                            generalize wr.drew = w76 at BK101 BK102 HB hHeld ⊢
                            refine pure_ (i := 0) (N := some 90) (v := ?_) (a' := ?_) #[true, false, false, false, false, false, false] rfl rfl (by kernel_rfl) (fun _ _ _ h => h) (Or.inl ⟨by rfl, ?_⟩) ?_ ?_
                            rotate_left
                            · intro w'
                              go_simp
                              with_reducible rfl
                            rotate_left
                            · simp only [Act.put, List.setIfInBounds_toArray, List.set_cons_zero, List.set_cons_succ, i64_w, i32_w]
                              rfl
                            refine pure_ (i := 1) (N := some 91) (v := ?_) (a' := ?_) #[true, true, false, false, false, false, false] rfl rfl (by kernel_rfl) (fun _ _ _ h => h) (Or.inl ⟨by rfl, ?_⟩) ?_ ?_
                            rotate_left
                            · intro w'
                              go_simp
                              with_reducible rfl
                            rotate_left
                            · simp only [Act.put, List.setIfInBounds_toArray, List.set_cons_zero, List.set_cons_succ, i64_w, i32_w]
                              rfl
                            refine pure_ (i := 3) (N := some 93) (v := ?_) (a' := ?_) #[true, true, false, true, false, false, false] rfl rfl (by kernel_rfl) (fun _ _ _ h => h) (Or.inl ⟨by rfl, ?_⟩) ?_ ?_
                            rotate_left
                            · intro w'
                              go_simp
                              with_reducible rfl
                            rotate_left
                            · simp only [Act.put, List.setIfInBounds_toArray, List.set_cons_zero, List.set_cons_succ, i64_w, i32_w]
                              rfl
                            refine pure_ (i := 4) (N := some 94) (v := ?_) (a' := ?_) #[true, true, false, true, true, false, false] rfl rfl (by kernel_rfl) (fun _ _ _ h => h) (Or.inl ⟨by rfl, ?_⟩) ?_ ?_
                            rotate_left
                            · intro w'
                              go_simp
                              with_reducible rfl
                            rotate_left
                            · simp only [Act.put, List.setIfInBounds_toArray, List.set_cons_zero, List.set_cons_succ, i64_w, i32_w]
                              rfl
                            refine take_ (i := 2) (N := some 92) (v := ?_) (a' := ?_) #[true, true, true, true, true, false, false] rfl rfl (by kernel_rfl) (fun _ _ _ h => h) (Or.inl ⟨by rfl, ?_⟩) hHeld ?_ ?_
                            rotate_left
                            · intro w' _
                              go_simp
                              with_reducible rfl
                            rotate_left
                            · simp only [Act.put, List.setIfInBounds_toArray, List.set_cons_zero, List.set_cons_succ, i64_w, i32_w]
                              rfl
                            refine take_ (i := 5) (N := some 95) (v := ?_) (a' := ?_) #[true, true, true, true, true, true, false] rfl rfl (by kernel_rfl) (fun _ _ _ h => h) (Or.inl ⟨by rfl, ?_⟩) hHeld ?_ ?_
                            rotate_left
                            · intro w' _
                              go_simp
                              with_reducible rfl
                            rotate_left
                            · simp only [Act.put, List.setIfInBounds_toArray, List.set_cons_zero, List.set_cons_succ, i64_w, i32_w]
                              rfl
                            refine pure_ (i := 6) (N := some 96) (v := ?_) (a' := ?_) #[true, true, true, true, true, true, true] rfl rfl (by kernel_rfl) (fun _ _ _ h => h) (Or.inl ⟨by rfl, ?_⟩) ?_ ?_
                            rotate_left
                            · intro w'
                              go_simp
                              with_reducible rfl
                            rotate_left
                            · simp only [Act.put, List.setIfInBounds_toArray, List.set_cons_zero, List.set_cons_succ, i64_w, i32_w]
                              rfl
                            refine done_ (by kernel_rfl) ?_
                            try go_wp2
                            have n0_ := Aside0.mk (blk_drew BK101.out)
                            have n1_ := Aside0.mk (blk_drew BK102.out)
                            have n2_ := Aside0.mk (below_drew1 HB.out)
                            clear BK101
                            clear BK102
                            clear HB
                            have BK101 := n0_
                            have BK102 := n1_
                            have HB := n2_
                            clear n0_ n1_ n2_
                            have p72 : 0 ≤ (a1 : Int) := of_decide_eq_true (by first | (with_reducible assumption) | assumption)
                            have q72 : a1 < (a0.size : Int) := of_decide_eq_true (by first | (with_reducible assumption) | assumption)
                            have hx72 := bt_at a0 a1
                            replace p72 := eq_true p72
                            replace q72 := eq_true q72
                            refine start_ (n := 13) (S := fun w' => True) (ds := []) #[false, false, false, false, false, false, false, false, false, false, false, false, false] (by kernel_rfl) rfl rfl trivial (fun hHeld => ?_); refine with_tabW spoondriftref05_Cut.tab24 spoondriftref05_Cut.bits24 (fun HT_ HW_ => ?_)
                            generalize w76.drew = w77 at BK101 BK102 HB hHeld ⊢
                            refine pure_ (i := 0) (N := some 97) (v := ?_) (a' := ?_) #[true, false, false, false, false, false, false, false, false, false, false, false, false] rfl rfl (any_of HT_.out (by kernel_rfl)) (fun _ _ _ h => h) (Or.inl ⟨by rfl, ?_⟩) ?_ ?_
                            rotate_left
                            · intro w'
                              go_simp
                              with_reducible rfl
                            rotate_left
                            · simp only [Act.put, List.setIfInBounds_toArray, List.set_cons_zero, List.set_cons_succ, i64_w, i32_w]
                              rfl
                            refine pure_ (i := 1) (N := some 98) (v := ?_) (a' := ?_) #[true, true, false, false, false, false, false, false, false, false, false, false, false] rfl rfl (any_of HT_.out (by kernel_rfl)) (fun _ _ _ h => h) (Or.inl ⟨by rfl, ?_⟩) ?_ ?_
                            rotate_left
                            · intro w'
                              go_simp
                              with_reducible rfl
                            rotate_left
                            · simp only [Act.put, List.setIfInBounds_toArray, List.set_cons_zero, List.set_cons_succ, i64_w, i32_w]
                              rfl
                            refine pure_ (i := 4) (N := some 101) (v := ?_) (a' := ?_) #[true, true, false, false, true, false, false, false, false, false, false, false, false] rfl rfl (any_of HT_.out (by kernel_rfl)) (fun _ _ _ h => h) (Or.inl ⟨by rfl, ?_⟩) ?_ ?_
                            rotate_left
                            · intro w'
                              go_simp
                              with_reducible rfl
                            rotate_left
                            · simp only [Act.put, List.setIfInBounds_toArray, List.set_cons_zero, List.set_cons_succ, i64_w, i32_w]
                              rfl
                            refine pure_ (i := 5) (N := some 102) (v := ?_) (a' := ?_) #[true, true, false, false, true, true, false, false, false, false, false, false, false] rfl rfl (any_of HT_.out (by kernel_rfl)) (fun _ _ _ h => h) (Or.inl ⟨by rfl, ?_⟩) ?_ ?_
                            rotate_left
                            · intro w'
                              go_simp
                              with_reducible rfl
                            rotate_left
                            · simp only [Act.put, List.setIfInBounds_toArray, List.set_cons_zero, List.set_cons_succ, i64_w, i32_w]
                              rfl
                            refine pure_ (i := 6) (N := some 103) (v := ?_) (a' := ?_) #[true, true, false, false, true, true, true, false, false, false, false, false, false] rfl rfl (any_of HT_.out (by kernel_rfl)) (fun _ _ _ h => h) (Or.inl ⟨by rfl, ?_⟩) ?_ ?_
                            rotate_left
                            · intro w'
                              go_simp
                              with_reducible rfl
                            rotate_left
                            · simp only [Act.put, List.setIfInBounds_toArray, List.set_cons_zero, List.set_cons_succ, i64_w, i32_w]
                              rfl
                            refine pure_ (i := 7) (N := some 104) (v := ?_) (a' := ?_) #[true, true, false, false, true, true, true, true, false, false, false, false, false] rfl rfl (any_of HT_.out (by kernel_rfl)) (fun _ _ _ h => h) (Or.inl ⟨by rfl, ?_⟩) ?_ ?_
                            rotate_left
                            · intro w'
                              go_simp
                              with_reducible rfl
                            rotate_left
                            · simp only [Act.put, List.setIfInBounds_toArray, List.set_cons_zero, List.set_cons_succ, i64_w, i32_w]
                              rfl
                            refine pure_ (i := 8) (N := some 105) (v := ?_) (a' := ?_) #[true, true, false, false, true, true, true, true, true, false, false, false, false] rfl rfl (any_of HT_.out (by kernel_rfl)) (fun _ _ _ h => h) (Or.inl ⟨by rfl, ?_⟩) ?_ ?_
                            rotate_left
                            · intro w'
                              go_simp
                              with_reducible rfl
                            rotate_left
                            · simp only [Act.put, List.setIfInBounds_toArray, List.set_cons_zero, List.set_cons_succ, i64_w, i32_w]
                              rfl
                            refine take_ (i := 2) (N := some 99) (v := ?_) (a' := ?_) #[true, true, true, false, true, true, true, true, true, false, false, false, false] rfl rfl (take_ofW HT_.out HW_.out (by kernel_rfl)) (fun _ _ _ h => h) (Or.inl ⟨by rfl, ?_⟩) hHeld ?_ ?_
                            rotate_left
                            · intro w' _
                              go_simp
                              with_reducible rfl
                            rotate_left
                            · simp only [Act.put, List.setIfInBounds_toArray, List.set_cons_zero, List.set_cons_succ, i64_w, i32_w]
                              rfl
                            refine pure_ (i := 3) (N := some 100) (v := ?_) (a' := ?_) #[true, true, true, true, true, true, true, true, true, false, false, false, false] rfl rfl (any_of HT_.out (by kernel_rfl)) (fun _ _ _ h => h) (Or.inl ⟨by rfl, ?_⟩) ?_ ?_
                            rotate_left
                            · intro w'
                              go_simp
                              with_reducible rfl
                            rotate_left
                            · simp only [Act.put, List.setIfInBounds_toArray, List.set_cons_zero, List.set_cons_succ, i64_w, i32_w]
                              rfl
                            refine pure_ (i := 9) (N := some 106) (v := ?_) (a' := ?_) #[true, true, true, true, true, true, true, true, true, true, false, false, false] rfl rfl (any_of HT_.out (by kernel_rfl)) (fun _ _ _ h => h) (Or.inl ⟨by rfl, ?_⟩) ?_ ?_
                            rotate_left
                            · intro w'
                              go_simp
                              with_reducible rfl
                            rotate_left
                            · simp only [Act.put, List.setIfInBounds_toArray, List.set_cons_zero, List.set_cons_succ, i64_w, i32_w]
                              rfl
                            refine one_ (i := 10) (N := none) #[true, true, true, true, true, true, true, true, true, true, true, false, false] rfl rfl (one_of HT_.out (by kernel_rfl)) (by decide) (fun K hK => ?_)
                            have hs78 : w77.cell? ⟨gb102, 1, none⟩ = some (.int .i64 x103001_1) := (blk_cell BK102.out 1).trans rfl
                            have hfs78 := blk_frozen BK102.out 1
                            have hns78_0 := NB101_102.out
                            have hms78_0 := NB102_101.out
                            refine skip_ (w1 := ?_) (by rfl) rfl ?_ ?_
                            rotate_left
                            · go_simp
                              rfl
                            refine hK.out _ _ trivial (fun hHeld => ?_)
                            clear hK K
                            refine pure_ (i := 11) (N := some 107) (v := ?_) (a' := ?_) #[true, true, true, true, true, true, true, true, true, true, true, true, false] rfl rfl (any_of HT_.out (by kernel_rfl)) (fun _ _ _ h => h) (Or.inl ⟨by rfl, ?_⟩) ?_ ?_
                            rotate_left
                            · intro w'
                              go_simp
                              with_reducible rfl
                            rotate_left
                            · simp only [Act.put, List.setIfInBounds_toArray, List.set_cons_zero, List.set_cons_succ, i64_w, i32_w]
                              rfl
                            refine one_ (i := 12) (N := none) #[true, true, true, true, true, true, true, true, true, true, true, true, true] rfl rfl (one_of HT_.out (by kernel_rfl)) (by decide) (fun K hK => ?_)
                            have hs79 : w77.cell? ⟨gb102, 2, none⟩ = some (.string x103002_1) := (blk_cell BK102.out 2).trans rfl
                            have hfs79 := blk_frozen BK102.out 2
                            have hns79_0 := NB101_102.out
                            have hms79_0 := NB102_101.out
                            refine skip_ (w1 := ?_) (by rfl) rfl ?_ ?_
                            rotate_left
                            · go_simp
                              rfl
                            refine hK.out _ _ trivial (fun hHeld => ?_)
                            clear hK K
                            refine done_ (done_of HT_.out (by kernel_rfl)) ?_
                            have hnb80 := NB102_101.out
                            have hnc80 := NB101_102.out
                            have hcz81_0 : w77.cell? ⟨gb102, 0, none⟩ = some (.int .i64 a1) := (blk_cell BK102.out 0).trans rfl
                            have hcz81_1 : w77.cell? ⟨gb102, 1, none⟩ = some (.int .i64 x103001_1) := (blk_cell BK102.out 1).trans rfl
                            have hcz81_2 : w77.cell? ⟨gb102, 2, none⟩ = some (.string x103002_1) := (blk_cell BK102.out 2).trans rfl
                            have hfz81_0 := blk_frozen BK102.out 0
                            have hfz81_1 := blk_frozen BK102.out 1
                            have hfz81_2 := blk_frozen BK102.out 2
                            have hcz82_0 : w77.cell? ⟨gb101, 0, none⟩ = some (.int .i64 x102000_1) := (blk_cell BK101.out 0).trans rfl
                            have hcz82_1 : w77.cell? ⟨gb101, 1, none⟩ = some (.int .i64 x102001_1) := (blk_cell BK101.out 1).trans rfl
                            have hcz82_2 : w77.cell? ⟨gb101, 2, none⟩ = some (.string x102002_1) := (blk_cell BK101.out 2).trans rfl
                            have hfz82_0 := blk_frozen BK101.out 0
                            have hfz82_1 := blk_frozen BK101.out 1
                            have hfz82_2 := blk_frozen BK101.out 2
                            try go_wp2
                            refine bodyPost_ret (results_ct rfl _ _ gb101 34 #[.int .i64 a1, .int .i64 (wrap64 (bt a0 a1)), .string (a0.extract (a1 : Int).toNat ((wrap64 (a1 + 1)) : Int).toNat)] (0, 0) _ rfl (by (with_reducible repeat (first | refine blk_drewN ?_ _ | refine blk_drew ?_ | refine blk_alloc ?_ _)); refine blk_put (cs := #[.int .i64 a1, .int .i64 (wrap64 (bt a0 a1)), .string x102002_1]) ?_ 2 _ rfl; (with_reducible repeat (first | refine blk_drewN ?_ _ | refine blk_drew ?_ | refine blk_alloc ?_ _)); refine blk_put (cs := #[.int .i64 a1, .int .i64 x102001_1, .string x102002_1]) ?_ 1 _ rfl; (with_reducible repeat (first | refine blk_drewN ?_ _ | refine blk_drew ?_ | refine blk_alloc ?_ _)); refine blk_put (cs := #[.int .i64 x102000_1, .int .i64 x102001_1, .string x102002_1]) ?_ 0 _ rfl; (with_reducible repeat (first | refine blk_drewN ?_ _ | refine blk_drew ?_ | refine blk_alloc ?_ _)); refine blk_far ?_ NB101_102.out _; (with_reducible repeat (first | refine blk_drewN ?_ _ | refine blk_drew ?_ | refine blk_alloc ?_ _)); refine blk_far ?_ NB101_102.out _; (with_reducible repeat (first | refine blk_drewN ?_ _ | refine blk_drew ?_ | refine blk_alloc ?_ _)); exact BK101.out) Tryz.underlying34 rfl (by kernel_rfl)) rfl ?_
                            exact ⟨by first | rfl | (simp [errW_none, errW_some] <;> rfl) | (simp [*, errW_none, errW_some] <;> rfl), by repeat (first | (with_reducible first | exact HB.out | apply below_alloc | apply pw_below_drewN | apply below_drew1 | refine below_set ?_ GE101.out | refine below_set ?_ GE102.out) | exact HB.out)⟩
                          · rw [if_neg c75] at H
                            exact absurd H (by simp)
                        · rw [if_neg c74] at H
                          exact absurd H (by simp)
                      · rw [if_neg c71] at H
                        have c71b0 : ((bt a3 x13_1) == (bt a0 a1)) = false := beq_eq_false_iff_ne.mpr c71
                        have c71b1 : ((bt a3 x13_1) != (bt a0 a1)) = true := bne_iff_ne.mpr c71
                        have H' := Aside0.mk H
                        clear H
                        try go_wp2
                        have n0_ := Aside0.mk (blk_drew BK101.out)
                        have n1_ := Aside0.mk (blk_drew BK102.out)
                        have n2_ := Aside0.mk (below_drew1 HB.out)
                        clear BK101
                        clear BK102
                        clear HB
                        have BK101 := n0_
                        have BK102 := n1_
                        have HB := n2_
                        clear n0_ n1_ n2_
                        have p67 : 0 ≤ (x13_1 : Int) := of_decide_eq_true (by first | (with_reducible assumption) | assumption)
                        have q67 : x13_1 < (a3.size : Int) := of_decide_eq_true (by first | (with_reducible assumption) | assumption)
                        have hx67 := bt_at a3 x13_1
                        replace p67 := eq_true p67
                        replace q67 := eq_true q67
                        have p70 : 0 ≤ (a1 : Int) := of_decide_eq_true (by first | (with_reducible assumption) | assumption)
                        have q70 : a1 < (a0.size : Int) := of_decide_eq_true (by first | (with_reducible assumption) | assumption)
                        have hx70 := bt_at a0 a1
                        replace p70 := eq_true p70
                        replace q70 := eq_true q70
                        refine start_ (n := 7) (S := fun w' => True) (ds := []) #[false, false, false, false, false, false, false] (by kernel_rfl) rfl rfl trivial (fun hHeld => ?_)
                        generalize wr.drew = w83 at BK101 BK102 HB hHeld ⊢
                        refine pure_ (i := 0) (N := some 90) (v := ?_) (a' := ?_) #[true, false, false, false, false, false, false] rfl rfl (by kernel_rfl) (fun _ _ _ h => h) (Or.inl ⟨by rfl, ?_⟩) ?_ ?_
                        rotate_left
                        · intro w'
                          go_simp
                          with_reducible rfl
                        rotate_left
                        · simp only [Act.put, List.setIfInBounds_toArray, List.set_cons_zero, List.set_cons_succ, i64_w, i32_w]
                          rfl
                        refine pure_ (i := 1) (N := some 91) (v := ?_) (a' := ?_) #[true, true, false, false, false, false, false] rfl rfl (by kernel_rfl) (fun _ _ _ h => h) (Or.inl ⟨by rfl, ?_⟩) ?_ ?_
                        rotate_left
                        · intro w'
                          go_simp
                          with_reducible rfl
                        rotate_left
                        · simp only [Act.put, List.setIfInBounds_toArray, List.set_cons_zero, List.set_cons_succ, i64_w, i32_w]
                          rfl
                        refine pure_ (i := 3) (N := some 93) (v := ?_) (a' := ?_) #[true, true, false, true, false, false, false] rfl rfl (by kernel_rfl) (fun _ _ _ h => h) (Or.inl ⟨by rfl, ?_⟩) ?_ ?_
                        rotate_left
                        · intro w'
                          go_simp
                          with_reducible rfl
                        rotate_left
                        · simp only [Act.put, List.setIfInBounds_toArray, List.set_cons_zero, List.set_cons_succ, i64_w, i32_w]
                          rfl
                        refine pure_ (i := 4) (N := some 94) (v := ?_) (a' := ?_) #[true, true, false, true, true, false, false] rfl rfl (by kernel_rfl) (fun _ _ _ h => h) (Or.inl ⟨by rfl, ?_⟩) ?_ ?_
                        rotate_left
                        · intro w'
                          go_simp
                          with_reducible rfl
                        rotate_left
                        · simp only [Act.put, List.setIfInBounds_toArray, List.set_cons_zero, List.set_cons_succ, i64_w, i32_w]
                          rfl
                        refine take_ (i := 2) (N := some 92) (v := ?_) (a' := ?_) #[true, true, true, true, true, false, false] rfl rfl (by kernel_rfl) (fun _ _ _ h => h) (Or.inl ⟨by rfl, ?_⟩) hHeld ?_ ?_
                        rotate_left
                        · intro w' _
                          go_simp
                          with_reducible rfl
                        rotate_left
                        · simp only [Act.put, List.setIfInBounds_toArray, List.set_cons_zero, List.set_cons_succ, i64_w, i32_w]
                          rfl
                        refine take_ (i := 5) (N := some 95) (v := ?_) (a' := ?_) #[true, true, true, true, true, true, false] rfl rfl (by kernel_rfl) (fun _ _ _ h => h) (Or.inl ⟨by rfl, ?_⟩) hHeld ?_ ?_
                        rotate_left
                        · intro w' _
                          go_simp
                          with_reducible rfl
                        rotate_left
                        · simp only [Act.put, List.setIfInBounds_toArray, List.set_cons_zero, List.set_cons_succ, i64_w, i32_w]
                          rfl
                        refine pure_ (i := 6) (N := some 96) (v := ?_) (a' := ?_) #[true, true, true, true, true, true, true] rfl rfl (by kernel_rfl) (fun _ _ _ h => h) (Or.inl ⟨by rfl, ?_⟩) ?_ ?_
                        rotate_left
                        · intro w'
                          go_simp
                          with_reducible rfl
                        rotate_left
                        · simp only [Act.put, List.setIfInBounds_toArray, List.set_cons_zero, List.set_cons_succ, i64_w, i32_w]
                          rfl
                        refine done_ (by kernel_rfl) ?_
                        try go_wp2
                        go_roundg k1
                        case measure => have := HK1.out; omega
                        case rel => exact ⟨(wrap64 (x13_1 + 1)), (x102000_1), (x102001_1), (x102002_1), (x103001_1), (x103002_1), (by first | rfl | (simp; done) | (simp [*]; done)), H', ⟨by have := HK1.out; omega⟩, ⟨by (with_reducible repeat (first | refine blk_drewN ?_ _ | refine blk_drew ?_ | refine blk_alloc ?_ _)); exact BK101.out⟩, ⟨by (with_reducible repeat (first | refine blk_drewN ?_ _ | refine blk_drew ?_ | refine blk_alloc ?_ _)); exact BK102.out⟩, ⟨by repeat (first | (with_reducible first | exact HB.out | apply below_alloc | apply pw_below_drewN | apply below_drew1 | refine below_set ?_ GE101.out | refine below_set ?_ GE102.out) | exact HB.out)⟩⟩
                    · rw [if_neg c69] at H
                      exact absurd H (by simp)
                  · rw [if_neg c68] at H
                    exact absurd H (by simp)
                · rw [if_neg c66] at H
                  exact absurd H (by simp)
              · rw [if_neg c65] at H
                have c65b0 : decide (x13_1 < (a3.size : Int)) = false := decide_eq_false c65
                clear c65
                simp only [Option.some.injEq, Prod.mk.injEq] at H
                obtain ⟨rfl, rfl, rfl, rfl⟩ := H
                have hnb84 := NB102_101.out
                have hnc84 := NB101_102.out
                have hcz85_0 : wr.cell? ⟨gb102, 0, none⟩ = some (.int .i64 a1) := (blk_cell BK102.out 0).trans rfl
                have hcz85_1 : wr.cell? ⟨gb102, 1, none⟩ = some (.int .i64 x103001_1) := (blk_cell BK102.out 1).trans rfl
                have hcz85_2 : wr.cell? ⟨gb102, 2, none⟩ = some (.string x103002_1) := (blk_cell BK102.out 2).trans rfl
                have hfz85_0 := blk_frozen BK102.out 0
                have hfz85_1 := blk_frozen BK102.out 1
                have hfz85_2 := blk_frozen BK102.out 2
                have hcz86_0 : wr.cell? ⟨gb101, 0, none⟩ = some (.int .i64 x102000_1) := (blk_cell BK101.out 0).trans rfl
                have hcz86_1 : wr.cell? ⟨gb101, 1, none⟩ = some (.int .i64 x102001_1) := (blk_cell BK101.out 1).trans rfl
                have hcz86_2 : wr.cell? ⟨gb101, 2, none⟩ = some (.string x102002_1) := (blk_cell BK101.out 2).trans rfl
                have hfz86_0 := blk_frozen BK101.out 0
                have hfz86_1 := blk_frozen BK101.out 1
                have hfz86_2 := blk_frozen BK101.out 2
                go_wp2
                refine bodyPost_ret (results_ct rfl _ _ gb101 34 #[.int .i64 a1, .int .i64 x103001_1, .string x103002_1] (0, 0) _ rfl (by (with_reducible repeat (first | refine blk_drewN ?_ _ | refine blk_drew ?_ | refine blk_alloc ?_ _)); refine blk_put (cs := #[.int .i64 a1, .int .i64 x103001_1, .string x102002_1]) ?_ 2 _ rfl; (with_reducible repeat (first | refine blk_drewN ?_ _ | refine blk_drew ?_ | refine blk_alloc ?_ _)); refine blk_put (cs := #[.int .i64 a1, .int .i64 x102001_1, .string x102002_1]) ?_ 1 _ rfl; (with_reducible repeat (first | refine blk_drewN ?_ _ | refine blk_drew ?_ | refine blk_alloc ?_ _)); refine blk_put (cs := #[.int .i64 x102000_1, .int .i64 x102001_1, .string x102002_1]) ?_ 0 _ rfl; (with_reducible repeat (first | refine blk_drewN ?_ _ | refine blk_drew ?_ | refine blk_alloc ?_ _)); exact BK101.out) Tryz.underlying34 rfl (by kernel_rfl)) rfl ?_
                exact ⟨by first | rfl | (simp [errW_none, errW_some] <;> rfl) | (simp [*, errW_none, errW_some] <;> rfl), by repeat (first | (with_reducible first | exact HB.out | apply below_alloc | apply pw_below_drewN | apply below_drew1 | refine below_set ?_ GE101.out | refine below_set ?_ GE102.out) | exact HB.out)⟩
    · rw [if_neg c6] at H
      exact absurd H (by simp)
  · rw [if_neg c5] at H
    exact absurd H (by simp)
end Go.Proofs.YtmlloonbommkhaaGreatDoorPR
end
section
set_option linter.all false
namespace Go.Proofs.YtmlloonbommkhaaGreatDoor
open Go.RowKit Go.Proofs.YtmlloonbommkhaaGreatDoorPR Go.Proofs.YtmlloonbommkhaaGreatDoorW.PrintWords Go.Proofs.YtmlloonbommkhaaGreatDoorW.PrintLast Go.Proofs.YtmlloonbommkhaaGreatDoorW.PrintMore
theorem bt_bs (l : List UInt8) (i : Nat) (h : i < l.length) : YtmlloonbommkhaaGreatDoorW.PrintWords.bt (bs l) (i : Int) = ((l[i]).toNat : Int) := by
  unfold YtmlloonbommkhaaGreatDoorW.PrintWords.bt
  rw [Int.toNat_natCast, dif_pos (by rw [bs_size]; exact h), bs_get]
theorem wr1 (i : Nat) (h : i ≤ 4000000000) : wrap64 ((i : Int) + 1) = ((i + 1 : Nat) : Int) := by unfold wrap64; omega
theorem u8_eq {b c : UInt8} : ((b.toNat : Int) = (c.toNat : Int)) ↔ b = c := ⟨fun h => UInt8.toNat.inj (by omega), fun h => by rw [h]⟩
theorem lay_eq (l : List UInt8) (hl : l.length ≤ 1000000) : ∀ (d i k : Nat), i + d = l.length → 2 * d + 2 ≤ k →
    spoondriftref05_Layout.l0 k (bs l) i = some ((i + lay false (l.drop i) : Nat) : Int) ∧ spoondriftref05_Layout.l1 k (bs l) i = some ((i + lay true (l.drop i) : Nat) : Int)
  | 0, i, k, hi, hk => by
    obtain ⟨k, rfl⟩ : ∃ m, k = m + 2 := ⟨k - 2, by omega⟩
    have h0 : ∀ k, spoondriftref05_Layout.l0 (k + 1) (bs l) i = some ((i : Nat) : Int) := fun k => by
      rw [spoondriftref05_Layout.l0, bs_size, if_neg (by omega)]
    rw [List.drop_of_length_le (by omega)]
    refine ⟨h0 _, ?_⟩
    rw [spoondriftref05_Layout.l1, bs_size, if_neg (by omega), h0]
    rfl
  | d + 1, i, k, hi, hk => by
    obtain ⟨k, rfl⟩ : ∃ m, k = m + 2 := ⟨k - 2, by omega⟩
    have hlt : i < l.length := by omega
    have ih := lay_eq l hl d (i + 1) k (by omega) (by omega)
    have ih1 := lay_eq l hl d (i + 1) (k + 1) (by omega) (by omega)
    have hd : l.drop i = l[i] :: l.drop (i + 1) := List.drop_eq_getElem_cons hlt
    have hb := bt_bs l i hlt
    have s0 : ∀ m, spoondriftref05_Layout.l0 (m + 1) (bs l) i = if l[i] = 35 then spoondriftref05_Layout.l1 m (bs l) i else if isB l[i] then spoondriftref05_Layout.l0 m (bs l) ((i + 1 : Nat) : Int) else some (i : Int) := by
      intro m
      rw [spoondriftref05_Layout.l0, bs_size, if_pos (by omega), if_pos (by omega), hb, wr1 i (by omega)]
      by_cases h35 : l[i] = 35
      · rw [if_pos h35, if_pos (by rw [h35]; rfl)]
      · rw [if_neg h35, if_neg (fun h => h35 (u8_eq.1 (by rw [h]; rfl)))]
        unfold isB
        by_cases h32 : l[i] = 32
        · rw [if_pos (by rw [h32]; rfl), if_pos (by rw [h32]; rfl)]
        · rw [if_neg (fun h => h32 (u8_eq.1 (by rw [h]; rfl)))]
          by_cases h10 : l[i] = 10
          · rw [if_pos (by rw [h10]; rfl), if_pos (by rw [h10]; rfl)]
          · rw [if_neg (fun h => h10 (u8_eq.1 (by rw [h]; rfl))), if_neg (by simp [h32, h10])]
    have s1 : ∀ m, spoondriftref05_Layout.l1 (m + 1) (bs l) i = if l[i] = 10 then spoondriftref05_Layout.l0 m (bs l) i else spoondriftref05_Layout.l1 m (bs l) ((i + 1 : Nat) : Int) := by
      intro m
      rw [spoondriftref05_Layout.l1, bs_size, if_pos (by omega), if_pos (by omega), hb, wr1 i (by omega)]
      by_cases h10 : l[i] = 10
      · rw [if_pos h10, if_pos (by rw [h10]; rfl)]
      · rw [if_neg h10, if_neg (fun h => h10 (u8_eq.1 (by rw [h]; rfl)))]
    rw [hd]
    refine ⟨?_, ?_⟩
    · rw [s0]
      unfold lay
      by_cases h35 : l[i] = 35
      · have hB : isB l[i] = false := by rw [h35]; rfl
        rw [if_pos h35, s1, if_neg (by rw [h35]; decide), ih.2, hB, if_neg (by decide), if_pos (by rw [h35]; rfl)]
        congr 1; omega
      · rw [if_neg h35]
        by_cases hB : isB l[i] = true
        · rw [if_pos hB, if_pos hB, ih1.1]
          congr 1; omega
        · rw [if_neg hB, if_neg hB, if_neg (by simpa using h35)]
          rfl
    · rw [s1]
      unfold lay
      by_cases h10 : l[i] = 10
      · rw [if_pos h10, s0, if_neg (by rw [h10]; decide), if_pos (by rw [h10]; rfl), ih.1, show (l[i] != 10) = false by rw [h10]; rfl]
        congr 1; omega
      · rw [if_neg h10, ih1.2, show (l[i] != 10) = true by simpa using h10]
        congr 1; omega
theorem Layout_eq (l : List UInt8) (hl : l.length ≤ 1000000) (i k : Nat) (hi : i ≤ l.length) (hk : 2 * l.length + 2 ≤ k) : spoondriftref05_Layout.f k (bs l) i = some ((i + lay false (l.drop i) : Nat) : Int) :=
  (lay_eq l hl (l.length - i) i k (by omega) (by omega)).1
theorem tw_next (p : UInt8 → Bool) : ∀ (L : List UInt8) (j : Nat), j ≤ (L.takeWhile p).length →
    (∀ h : j < L.length, p L[j] = decide (j < (L.takeWhile p).length)) ∧ (L.length ≤ j → (L.takeWhile p).length = j) ∧ L.take j = (L.takeWhile p).take j
  | [], j, h => by
    have h : j ≤ 0 := by simpa using h
    exact ⟨fun h2 => by simp at h2, fun _ => by simp; omega, by simp⟩
  | c :: L, 0, h => by
    refine ⟨fun h2 => ?_, fun h2 => by simp at h2, by simp⟩
    by_cases hc : p c = true
    · rw [List.takeWhile_cons_of_pos hc]; simp [hc]
    · rw [List.takeWhile_cons_of_neg hc]; simpa using hc
  | c :: L, j + 1, h => by
    by_cases hc : p c = true
    · rw [List.takeWhile_cons_of_pos hc] at h ⊢
      obtain ⟨h1, h2, h3⟩ := tw_next p L j (by simpa using h)
      refine ⟨fun h4 => ?_, fun h4 => ?_, by simp [h3]⟩
      · have := h1 (by simpa using h4)
        rw [List.getElem_cons_succ, this]
        simp
      · have := h2 (by simpa using h4)
        simp [this]
    · rw [List.takeWhile_cons_of_neg hc] at h; simp at h
theorem letter_f (b : UInt8) : spoondriftref05_letter.f (b.toNat : Int) = some (isL b) := by
  unfold spoondriftref05_letter.f isL
  by_cases h : 97 ≤ b.toNat
  · rw [if_pos (by omega), decide_eq_true h, Bool.true_and]
    congr 1
    rw [Bool.eq_iff_iff]; simp
    omega
  · rw [if_neg (by omega), decide_eq_false h, Bool.false_and]
theorem digit_f (b : UInt8) : spoondriftref05_digit.f (b.toNat : Int) = some (isD b) := by
  unfold spoondriftref05_digit.f isD
  by_cases h : 48 ≤ b.toNat
  · rw [if_pos (by omega), decide_eq_true h, Bool.true_and]
    congr 1
    rw [Bool.eq_iff_iff]; simp
    omega
  · rw [if_neg (by omega), decide_eq_false h, Bool.false_and]
theorem ext_take (l : List UInt8) (a j : Nat) : (bs l).extract a (a + j) = bs ((l.drop a).take j) := by
  apply ByteArray.ext
  simp only [bs, ByteArray.data_extract]
  apply Array.ext'
  simp only [Array.toList_extract, List.extract_eq_take_drop]
  rw [Nat.add_sub_cancel_left]
theorem cut_word (l : List UInt8) (hl : l.length ≤ 1000000) (a : Nat) (ha : a ≤ l.length) : ∀ (m j k : Nat), j + m = 8 → 2 * m + 2 ≤ k → j ≤ ((l.drop a).takeWhile isL).length →
    spoondriftref05_Cut.l0 k (bs l) a ((a + j : Nat) : Int) a 1 (bs ((l.drop a).take j)) = some ((a : Int), 1, bs (((l.drop a).takeWhile isL).take 8), if 8 < ((l.drop a).takeWhile isL).length then (a : Int) + 8 else -1) := by
  have hdl : (l.drop a).length = l.length - a := List.length_drop
  have hTl : ((l.drop a).takeWhile isL).length ≤ l.length - a := by rw [← hdl]; exact takeWhile_le isL _
  have stop : ∀ (j k : Nat), 1 ≤ k → j ≤ 8 → ((l.drop a).takeWhile isL).length = j → spoondriftref05_Cut.j1 k (bs l) a ((a + j : Nat) : Int) false a 1 (bs ((l.drop a).take j)) = some ((a : Int), 1, bs (((l.drop a).takeWhile isL).take 8), if 8 < ((l.drop a).takeWhile isL).length then (a : Int) + 8 else -1) := by
    intro j k hk hj hn
    obtain ⟨k, rfl⟩ : ∃ m, k = m + 1 := ⟨k - 1, by omega⟩
    rw [spoondriftref05_Cut.j1, if_neg (by decide), if_neg (by omega), (tw_next isL (l.drop a) j (by omega)).2.2, List.take_of_length_le (by omega), List.take_of_length_le (by omega)]
  intro m
  induction m with
  | zero =>
    intro j k hj hk hjn
    obtain ⟨k, rfl⟩ : ∃ m, k = m + 2 := ⟨k - 2, by omega⟩
    obtain rfl : j = 8 := by omega
    obtain ⟨h1, h2, h3⟩ := tw_next isL (l.drop a) 8 hjn
    rw [spoondriftref05_Cut.l0, bs_size]
    by_cases hlt : a + 8 < l.length
    · rw [if_pos (by omega), if_pos (by omega), bt_bs l (a + 8) hlt, letter_f, Option.bind_some]
      have h4 := h1 (by omega)
      rw [List.getElem_drop] at h4
      rw [h4]
      by_cases hn : 8 < ((l.drop a).takeWhile isL).length
      · rw [decide_eq_true hn, spoondriftref05_Cut.j1, if_pos rfl, if_pos (by rw [bs_size, List.length_take]; omega), if_pos hn, h3]
        rfl
      · rw [decide_eq_false hn]
        exact stop 8 (k + 1) (by omega) (by omega) (by omega)
    · rw [if_neg (by omega)]
      exact stop 8 (k + 1) (by omega) (by omega) (h2 (by omega))
  | succ m ih =>
    intro j k hj hk hjn
    obtain ⟨k, rfl⟩ : ∃ m, k = m + 2 := ⟨k - 2, by omega⟩
    obtain ⟨h1, h2, h3⟩ := tw_next isL (l.drop a) j hjn
    rw [spoondriftref05_Cut.l0, bs_size]
    by_cases hlt : a + j < l.length
    · rw [if_pos (by omega), if_pos (by omega), bt_bs l (a + j) hlt, letter_f, Option.bind_some]
      have h4 := h1 (by omega)
      rw [List.getElem_drop] at h4
      rw [h4]
      by_cases hn : j < ((l.drop a).takeWhile isL).length
      · rw [decide_eq_true hn, spoondriftref05_Cut.j1, if_pos rfl, if_neg (by rw [bs_size, List.length_take]; omega), wr1 (a + j) (by omega), bs_size, if_pos (by omega), if_pos (by omega), if_pos (by omega)]
        rw [Int.toNat_natCast, Int.toNat_natCast, show a + j + 1 = a + (j + 1) by omega, ext_take]
        exact ih (j + 1) k (by omega) (by omega) (by omega)
      · rw [decide_eq_false hn]
        exact stop j (k + 1) (by omega) (by omega) (by omega)
    · rw [if_neg (by omega)]
      exact stop j (k + 1) (by omega) (by omega) (h2 (by omega))
theorem num_stop (l : List UInt8) (a j k : Nat) (hk : 1 ≤ k) : spoondriftref05_Cut.j3 k (bs l) a 3 ((a + j : Nat) : Int) false a 2 (bs ((l.drop a).take j)) = some ((a : Int), 2, bs ((l.drop a).take j), -1) := by
  obtain ⟨k, rfl⟩ : ∃ m, k = m + 1 := ⟨k - 1, by omega⟩
  rw [spoondriftref05_Cut.j3, if_neg (by decide)]
theorem bs_toList (l : List UInt8) : (bs l).toList = l := by rw [ByteArray.toList_eq, bs_list]
theorem num_step (l : List UInt8) (hl : l.length ≤ 1000000) (a j k : Nat) (hlt : a + j < l.length) (hD : isD l[a + j] = true) (h3 : j < 3) (h0 : (l.drop a).take j ≠ [48]) :
    spoondriftref05_Cut.l1 (k + 2) (bs l) a 3 ((a + j : Nat) : Int) a 2 (bs ((l.drop a).take j)) = spoondriftref05_Cut.l1 k (bs l) a 3 ((a + (j + 1) : Nat) : Int) a 2 (bs ((l.drop a).take (j + 1))) := by
  rw [spoondriftref05_Cut.l1, bs_size, if_pos (by omega), if_pos (by omega), bt_bs l (a + j) hlt, digit_f, Option.bind_some, hD, spoondriftref05_Cut.j3, if_pos rfl, if_neg (by rw [bs_size, List.length_take, List.length_drop]; omega), if_neg (by rw [bs_toList]; exact h0),
    wr1 (a + j) (by omega), bs_size, if_pos (by omega), if_pos (by omega), if_pos (by omega), Int.toNat_natCast, Int.toNat_natCast, show a + j + 1 = a + (j + 1) by omega, ext_take]
theorem num_end (l : List UInt8) (a j k : Nat) (hk : 2 ≤ k) (h : ∀ hlt : a + j < l.length, isD l[a + j] = false) :
    spoondriftref05_Cut.l1 k (bs l) a 3 ((a + j : Nat) : Int) a 2 (bs ((l.drop a).take j)) = some ((a : Int), 2, bs ((l.drop a).take j), -1) := by
  obtain ⟨k, rfl⟩ : ∃ m, k = m + 2 := ⟨k - 2, by omega⟩
  rw [spoondriftref05_Cut.l1, bs_size]
  by_cases hlt : a + j < l.length
  · rw [if_pos (by omega), if_pos (by omega), bt_bs l (a + j) hlt, digit_f, Option.bind_some, h hlt]
    exact num_stop l a j _ (by omega)
  · rw [if_neg (by omega)]
    exact num_stop l a j _ (by omega)
theorem num_full (l : List UInt8) (a j k : Nat) (hk : 2 ≤ k) (hlt : a + j < l.length) (hD : isD l[a + j] = true) (h3 : ((l.drop a).take j).length = 3 ∨ (l.drop a).take j = [48]) :
    spoondriftref05_Cut.l1 k (bs l) a 3 ((a + j : Nat) : Int) a 2 (bs ((l.drop a).take j)) = some ((a : Int), 2, bs ((l.drop a).take j), ((a + j : Nat) : Int)) := by
  obtain ⟨k, rfl⟩ : ∃ m, k = m + 2 := ⟨k - 2, by omega⟩
  rw [spoondriftref05_Cut.l1, bs_size, if_pos (by omega), if_pos (by omega), bt_bs l (a + j) hlt, digit_f, Option.bind_some, hD, spoondriftref05_Cut.j3, if_pos rfl]
  rcases h3 with h3 | h3
  · rw [if_pos (by rw [bs_size, h3]; rfl)]
  · rw [if_neg (by rw [bs_size, h3]; decide), if_pos (by rw [bs_toList]; exact h3)]
theorem cut_num (l : List UInt8) (hl : l.length ≤ 1000000) (a : Nat) (c : UInt8) (r : List UInt8) (hc : l.drop a = c :: r) (hD : isD c = true) (k : Nat) (hk : 10 ≤ k) :
    spoondriftref05_Cut.l1 k (bs l) a 3 a a 2 (bs []) = some ((a : Int), 2, bs (if c = 48 then [48] else ((c :: r).takeWhile isD).take 3),
      if c = 48 then (if 1 < ((c :: r).takeWhile isD).length then (a : Int) + 1 else -1) else if 3 < ((c :: r).takeWhile isD).length then (a : Int) + 3 else -1) := by
  have hdl : (l.drop a).length = l.length - a := List.length_drop
  have hal : a < l.length := by
    rcases Nat.lt_or_ge a l.length with h | h
    · exact h
    · rw [List.drop_of_length_le h] at hc; cases hc
  rw [← hc]
  have hT1 : 1 ≤ ((l.drop a).takeWhile isD).length := by rw [hc]; exact takeWhile_ne hD
  have nx : ∀ j, j ≤ ((l.drop a).takeWhile isD).length → ∀ hlt : a + j < l.length, isD l[a + j] = decide (j < ((l.drop a).takeWhile isD).length) := fun j hj hlt => by
    have h4 := (tw_next isD (l.drop a) j hj).1 (by omega)
    rw [List.getElem_drop] at h4
    exact h4
  have hlen : ∀ j, j ≤ ((l.drop a).takeWhile isD).length → l.length ≤ a + j → ((l.drop a).takeWhile isD).length = j := fun j hj h => (tw_next isD (l.drop a) j hj).2.1 (by omega)
  have tk : ∀ j, j ≤ ((l.drop a).takeWhile isD).length → (l.drop a).take j = ((l.drop a).takeWhile isD).take j := fun j hj => (tw_next isD (l.drop a) j hj).2.2
  have t1 : (l.drop a).take 1 = [c] := by rw [hc]; rfl
  have g0 : isD l[a + 0] = true := by rw [nx 0 (by omega) (by omega)]; exact decide_eq_true (by omega)
  obtain ⟨k, rfl⟩ : ∃ m, k = m + 10 := ⟨k - 10, by omega⟩
  have z0 : spoondriftref05_Cut.l1 (k + 10) (bs l) a 3 a a 2 (bs []) = spoondriftref05_Cut.l1 (k + 8) (bs l) a 3 ((a + 1 : Nat) : Int) a 2 (bs ((l.drop a).take 1)) := num_step l hl a 0 (k + 8) (by omega) g0 (by omega) (by simp)
  rw [z0]
  by_cases h48 : c = 48
  · subst h48
    rw [if_pos rfl, if_pos rfl, t1]
    by_cases hn : 1 < ((l.drop a).takeWhile isD).length
    · rw [if_pos hn]
      have hlt : a + 1 < l.length := by
        rcases Nat.lt_or_ge (a + 1) l.length with h | h
        · exact h
        · have := hlen 1 (by omega) h; omega
      have := num_full l a 1 (k + 8) (by omega) hlt (by rw [nx 1 (by omega) hlt, decide_eq_true hn]) (.inr t1)
      rw [t1] at this
      exact this
    · rw [if_neg hn]
      have := num_end l a 1 (k + 8) (by omega) (fun hlt => by rw [nx 1 (by omega) hlt, decide_eq_false hn])
      rw [t1] at this
      exact this
  · rw [if_neg h48, if_neg h48]
    have done : ∀ j m, 2 ≤ m → j ≤ 3 → ((l.drop a).takeWhile isD).length = j → spoondriftref05_Cut.l1 m (bs l) a 3 ((a + j : Nat) : Int) a 2 (bs ((l.drop a).take j)) = some ((a : Int), 2, bs (((l.drop a).takeWhile isD).take 3), if 3 < ((l.drop a).takeWhile isD).length then (a : Int) + 3 else -1) := fun j m hm hj hn => by
      rw [num_end l a j m hm (fun hlt => by rw [nx j (by omega) hlt, decide_eq_false (by omega)]), if_neg (by omega), tk j (by omega), List.take_of_length_le (by omega), List.take_of_length_le (by omega)]
    have more : ∀ j, 1 ≤ j → j < 3 → j < ((l.drop a).takeWhile isD).length → ∀ m, spoondriftref05_Cut.l1 (m + 2) (bs l) a 3 ((a + j : Nat) : Int) a 2 (bs ((l.drop a).take j)) = spoondriftref05_Cut.l1 m (bs l) a 3 ((a + (j + 1) : Nat) : Int) a 2 (bs ((l.drop a).take (j + 1))) := fun j h1 h3 hn m => by
      have hlt : a + j < l.length := by
        rcases Nat.lt_or_ge (a + j) l.length with h | h
        · exact h
        · have := hlen j (by omega) h; omega
      refine num_step l hl a j m hlt (by rw [nx j (by omega) hlt, decide_eq_true hn]) h3 ?_
      intro h
      have hl2 := congrArg List.length h
      rw [List.length_take, hdl] at hl2
      obtain rfl : j = 1 := by simp at hl2; omega
      rw [t1] at h
      exact h48 (by injection h)
    by_cases n1 : 1 < ((l.drop a).takeWhile isD).length
    · rw [more 1 (by omega) (by omega) n1 (k + 6)]
      by_cases n2 : 2 < ((l.drop a).takeWhile isD).length
      · rw [more 2 (by omega) (by omega) n2 (k + 4)]
        by_cases n3 : 3 < ((l.drop a).takeWhile isD).length
        · have hlt : a + 3 < l.length := by
            rcases Nat.lt_or_ge (a + 3) l.length with h | h
            · exact h
            · have := hlen 3 (by omega) h; omega
          rw [num_full l a 3 (k + 4) (by omega) hlt (by rw [nx 3 (by omega) hlt, decide_eq_true n3]) (.inl (by rw [List.length_take]; omega)), if_pos n3, tk 3 (by omega)]
          rfl
        · exact done 3 _ (by omega) (by omega) (by omega)
      · exact done 2 _ (by omega) (by omega) (by omega)
    · exact done 1 _ (by omega) (by omega) (by omega)
theorem cut_sign (l : List UInt8) (hl : l.length ≤ 1000000) (a : Nat) (c : UInt8) (r : List UInt8) (hc : l.drop a = c :: r) (k : Nat) (hk : 4 ≤ k) :
    spoondriftref05_Cut.l2 k (bs l) a (bs [58, 59]) 0 a 0 (bs []) = if List.contains [58, 59] c then some ((a : Int), (c.toNat : Int), bs [c], -1) else some ((a : Int), 0, bs [], (a : Int)) := by
  have hal : a < l.length := by
    rcases Nat.lt_or_ge a l.length with h | h
    · exact h
    · rw [List.drop_of_length_le h] at hc; cases hc
  have hca : l[a] = c := by rw [List.drop_eq_getElem_cons hal] at hc; injection hc
  have hx : (bs l).extract a (a + 1) = bs [c] := by rw [ext_take, hc]; rfl
  have hw : wrap64 (c.toNat : Int) = (c.toNat : Int) := by have := c.toNat_lt; unfold wrap64; omega
  have b0 : YtmlloonbommkhaaGreatDoorW.PrintWords.bt (bs [58, 59]) 0 = 58 := by decide
  have b1 : YtmlloonbommkhaaGreatDoorW.PrintWords.bt (bs [58, 59]) 1 = 59 := by decide
  have hs : (bs [58, 59]).size = 2 := by decide
  have w0 : wrap64 (0 + 1) = 1 := by unfold wrap64; omega
  have w1 : wrap64 (1 + 1) = 2 := by unfold wrap64; omega
  obtain ⟨k, rfl⟩ : ∃ m, k = m + 4 := ⟨k - 4, by omega⟩
  rw [spoondriftref05_Cut.l2, hs, bs_size, bt_bs l a hal, hca, wr1 a (by omega), b0, if_pos (by decide), if_pos (by decide), if_pos (by omega), if_pos (by omega)]
  by_cases h58 : c = 58
  · subst h58
    rw [if_pos (by decide), if_pos (by omega), if_pos (by omega), if_pos (by decide), Int.toNat_natCast, Int.toNat_natCast, hx, hw]
  · rw [if_neg (fun h => h58 (u8_eq.1 h.symm)), w0, spoondriftref05_Cut.l2, hs, bs_size, bt_bs l a hal, hca, wr1 a (by omega), b1, if_pos (by decide), if_pos (by decide), if_pos (by omega), if_pos (by omega)]
    by_cases h59 : c = 59
    · subst h59
      rw [if_pos (by decide), if_pos (by omega), if_pos (by omega), if_pos (by decide), Int.toNat_natCast, Int.toNat_natCast, hx, hw]
    · rw [if_neg (fun h => h59 (u8_eq.1 h.symm)), w1, spoondriftref05_Cut.l2, hs, if_neg (by decide), if_neg (by simp [h58, h59])]
theorem Cut_eq (l : List UInt8) (hl : l.length ≤ 1000000) (a : Nat) (ha : a < l.length) (k : Nat) (hk : 30 ≤ k) :
    spoondriftref05_Cut.f k (bs l) a 3 (bs [58, 59]) = some ((a : Int), ((cutR 3 [58, 59] a (l.drop a)).1 : Int), bs (cutR 3 [58, 59] a (l.drop a)).2.1, (cutR 3 [58, 59] a (l.drop a)).2.2) := by
  obtain ⟨c, r, hc⟩ : ∃ c r, l.drop a = c :: r := ⟨l[a], l.drop (a + 1), List.drop_eq_getElem_cons ha⟩
  have hca : l[a] = c := by rw [List.drop_eq_getElem_cons ha] at hc; injection hc
  unfold spoondriftref05_Cut.f
  rw [bs_size, if_pos (by omega), if_pos (by omega), bt_bs l a ha, hca, letter_f, Option.bind_some, hc, cutR_cons]
  by_cases h1 : isL c = true
  · rw [h1, if_pos rfl, if_pos rfl]
    have h := cut_word l hl a (by omega) 8 0 k (by omega) (by omega) (Nat.zero_le _)
    rw [hc] at h
    exact h
  · rw [if_neg h1, if_neg h1, digit_f, Option.bind_some]
    by_cases h2 : isD c = true
    · rw [h2, if_pos rfl, if_pos rfl]
      exact cut_num l hl a c r hc h2 k (by omega)
    · rw [if_neg h2, if_neg h2]
      have h := cut_sign l hl a c r hc k (by omega)
      have h : spoondriftref05_Cut.l2 k (bs l) a (bs [58, 59]) 0 a 0 ⟨#[]⟩ = _ := h
      rw [h]
      by_cases h3 : List.contains [58, 59] c = true
      · rw [if_pos h3, if_pos h3]
      · rw [if_neg h3, if_neg h3]; rfl
end Go.Proofs.YtmlloonbommkhaaGreatDoor
end
section
set_option linter.all false
namespace Go.Proofs.YtmlloonbommkhaaGreatDoor
open Go.RowKit Go.Proofs.YtmlloonbommkhaaGreatDoorPR
def rdC (l : List UInt8) (r : Rr) : Array Value := #[.string (bs l), .int .i64 3, .string (bs [58, 59]), .int .i64 r.at_, .int .i64 r.at_, .int .i64 r.kind, .string (bs r.text), .int .i64 r.wrong, .bool r.none]
section
variable {w : World} {g : Nat} {t : TypeId}
theorem Blk.cells9 {a b c d e f h i j : Value} (H : Blk w g t #[a, b, c, d, e, f, h, i, j]) : w.cell? ⟨g, 0, none⟩ = some a ∧ w.cell? ⟨g, 1, none⟩ = some b ∧ w.cell? ⟨g, 2, none⟩ = some c ∧ w.cell? ⟨g, 3, none⟩ = some d ∧ w.cell? ⟨g, 4, none⟩ = some e ∧ w.cell? ⟨g, 5, none⟩ = some f ∧ w.cell? ⟨g, 6, none⟩ = some h ∧ w.cell? ⟨g, 7, none⟩ = some i ∧ w.cell? ⟨g, 8, none⟩ = some j ∧ ∀ i, w.frozen? ⟨g, i, none⟩ = false :=
  ⟨H.cell 0, H.cell 1, H.cell 2, H.cell 3, H.cell 4, H.cell 5, H.cell 6, H.cell 7, H.cell 8, H.frozen⟩
end
theorem refLayout_calls (l : List UInt8) (hl : l.length ≤ 1000000) (i : Nat) (hi : i ≤ l.length) (w : World) :
    Calls Tryz.prog 60 #[.string (bs l), .int .i64 i] w fun e w' => e = .returned (.int .i64 ((i + lay false (l.drop i) : Nat) : Int)) ∧ Below w.heap.size w w' :=
  (spoondriftref05_Layout.calls (2 * l.length + 2) (bs l) i _ w (Layout_eq l hl i _ hi (Nat.le_refl _))).mono fun _ _ ⟨he, hd⟩ => ⟨he, hd.below⟩
theorem refCut_calls (l : List UInt8) (hl : l.length ≤ 1000000) (a : Nat) (ha : a < l.length) (w : World) :
    Calls Tryz.prog 61 #[.string (bs l), .int .i64 a, .int .i64 3, .string (bs [58, 59])] w fun e w' => e = .returned (.tuple #[.agg #[.int .i64 a, .int .i64 (cutR 3 [58, 59] a (l.drop a)).1, .string (bs (cutR 3 [58, 59] a (l.drop a)).2.1)], .int .i64 (cutR 3 [58, 59] a (l.drop a)).2.2]) ∧ Below w.heap.size w w' :=
  spoondriftref05_Cut.calls 30 (bs l) a 3 (bs [58, 59]) _ _ _ _ w (Cut_eq l hl a ha 30 (Nat.le_refl _))
set_option maxRecDepth 100000 in
set_option maxHeartbeats 4000000 in
theorem refNext_any (l : List UInt8) (hl : l.length ≤ 1000000) (x : Nat) (tx : List UInt8) (hr : x + tx.length ≤ l.length) (q0 q1 q2 : Int) (q3 : Bool) (w : World) :
    Calls Tryz.prog 35 #[.agg #[.string (bs l), .int .i64 3, .string (bs [58, 59]), .int .i64 x, .int .i64 q0, .int .i64 q1, .string (bs tx), .int .i64 q2, .bool q3]] w fun e w' => e = .returned (.agg (rdC l (readAt 3 [58, 59] l (x + tx.length)))) ∧ Below w.heap.size w w' := by
  have hsz : (bs l).size = l.length := bs_size l
  have htz : (bs tx).size = tx.length := bs_size tx
  have HL := Lib.hid (refLayout_calls l hl (x + tx.length) hr)
  have hle := lay_le false (l.drop (x + tx.length))
  rw [List.length_drop] at hle
  have Hr : Hid (readAt 3 [58, 59] l (x + tx.length) = if x + tx.length + lay false (l.drop (x + tx.length)) = l.length then ⟨x + tx.length + lay false (l.drop (x + tx.length)), 0, [], -1, true⟩ else ⟨x + tx.length + lay false (l.drop (x + tx.length)), (cutR 3 [58, 59] (x + tx.length + lay false (l.drop (x + tx.length))) (l.drop (x + tx.length + lay false (l.drop (x + tx.length))))).1, (cutR 3 [58, 59] (x + tx.length + lay false (l.drop (x + tx.length))) (l.drop (x + tx.length + lay false (l.drop (x + tx.length))))).2.1, (cutR 3 [58, 59] (x + tx.length + lay false (l.drop (x + tx.length))) (l.drop (x + tx.length + lay false (l.drop (x + tx.length))))).2.2, false⟩) := rfl
  rw [Hr.out]
  have hil : x + tx.length + lay false (l.drop (x + tx.length)) ≤ l.length := by omega
  clear hle Hr
  generalize hi : x + tx.length + lay false (l.drop (x + tx.length)) = i at *
  have hx0 : (0 : Int) ≤ (x : Int) + (tx.length : Int) := by omega
  have hx1 : (x : Int) + (tx.length : Int) ≤ 1000000 := by omega
  have hx2 : (x : Int) ≤ 1000000 := by omega
  have hx3 : (tx.length : Int) ≤ 1000000 := by omega
  rw [show ((x + tx.length : Nat) : Int) = (x : Int) + (tx.length : Int) by omega] at HL
  clear hi
  by_cases he : i = l.length
  · rw [if_pos he]
    subst he
    unfold rdC
    go_enter Tryz.func35, Tryz.ntmps35
    go_wp2_with fail
    refine (HL.out _).mono ?_
    rintro e w1 ⟨rfl, hb1⟩
    have b1 : Blk w1 w.heap.size 65 #[.string (bs l), .int .i64 3, .string (bs [58, 59]), .int .i64 x, .int .i64 q0, .int .i64 q1, .string (bs tx), .int .i64 q2, .bool q3] := ((Blk.new w _ _).alloc _).below hb1 (by simp; omega)
    have b2 : Blk w1 (w.heap.size + 1) 65 #[.string ⟨#[]⟩, .int .i64 0, .string ⟨#[]⟩, .int .i64 0, .int .i64 0, .int .i64 0, .string ⟨#[]⟩, .int .i64 0, .bool false] := Blk.below (Blk.at_ (w.alloc (.cells #[.string (bs l), .int .i64 3, .string (bs [58, 59]), .int .i64 x, .int .i64 q0, .int .i64 q1, .string (bs tx), .int .i64 q2, .bool q3] 65)) 65 #[.string ⟨#[]⟩, .int .i64 0, .string ⟨#[]⟩, .int .i64 0, .int .i64 0, .int .i64 0, .string ⟨#[]⟩, .int .i64 0, .bool false] (n := w.heap.size + 1) (by simp)) hb1 (by simp)
    have hW : Below w.heap.size w w1 := bt hb1 (below2 _ _ _) (by simp; omega)
    clear hb1
    obtain ⟨x0, x1, x2, x3, x4, x5, x6, x7, x8, xf⟩ := b1.cells9
    obtain ⟨y0, y1, y2, y3, y4, y5, y6, y7, y8, yf⟩ := b2.cells9
    have hne : w.heap.size ≠ w.heap.size + 1 := by omega
    go_wp2_with fail
    refine bodyPost_ret (v := .agg (rdC l ⟨l.length, 0, [], -1, true⟩)) (by simp [rdC, results, Tryz.results35, go_sem, y0, y1, y2, y3, y4, y5, y6, y7, y8]; rfl) rfl ⟨rfl, ?_⟩
    repeat (with_reducible refine Below.setCell ?_ ?_ _)
    all_goals first | exact hW | (dsimp only; omega)
  · rw [if_neg he]
    have HC := Lib.hid (refCut_calls l hl i (by omega))
    generalize cutR 3 [58, 59] i (l.drop i) = r at *
    obtain ⟨kd, tt, wr⟩ := r
    dsimp only at HC ⊢
    have hne2 : ((i : Int) == (l.length : Int)) = false := by rw [beq_eq_false_iff_ne]; omega
    have hne3 : (i == l.length) = false := by rw [beq_eq_false_iff_ne]; exact he
    unfold rdC
    go_enter Tryz.func35, Tryz.ntmps35
    go_wp2_with fail
    refine (HL.out _).mono ?_
    rintro e w1 ⟨rfl, hb1⟩
    have b1 : Blk w1 w.heap.size 65 #[.string (bs l), .int .i64 3, .string (bs [58, 59]), .int .i64 x, .int .i64 q0, .int .i64 q1, .string (bs tx), .int .i64 q2, .bool q3] := ((Blk.new w _ _).alloc _).below hb1 (by simp; omega)
    have b2 : Blk w1 (w.heap.size + 1) 65 #[.string ⟨#[]⟩, .int .i64 0, .string ⟨#[]⟩, .int .i64 0, .int .i64 0, .int .i64 0, .string ⟨#[]⟩, .int .i64 0, .bool false] := Blk.below (Blk.at_ (w.alloc (.cells #[.string (bs l), .int .i64 3, .string (bs [58, 59]), .int .i64 x, .int .i64 q0, .int .i64 q1, .string (bs tx), .int .i64 q2, .bool q3] 65)) 65 #[.string ⟨#[]⟩, .int .i64 0, .string ⟨#[]⟩, .int .i64 0, .int .i64 0, .int .i64 0, .string ⟨#[]⟩, .int .i64 0, .bool false] (n := w.heap.size + 1) (by simp)) hb1 (by simp)
    have hW : Below w.heap.size w w1 := bt hb1 (below2 _ _ _) (by simp; omega)
    clear hb1
    obtain ⟨x0, x1, x2, x3, x4, x5, x6, x7, x8, xf⟩ := b1.cells9
    obtain ⟨y0, y1, y2, y3, y4, y5, y6, y7, y8, yf⟩ := b2.cells9
    have hne : w.heap.size ≠ w.heap.size + 1 := by omega
    go_wp2_with fail
    refine (HC.out _).mono ?_
    rintro e w2 ⟨rfl, hb2⟩
    have hz2 := hb2.size
    have HB2 := Lib.hid hb2
    have hs1 : Below w.heap.size w w2 := by
      refine bt hb2 ?_ ?_
      · repeat (with_reducible refine Below.setCell ?_ ?_ _)
        all_goals first | exact hW | (dsimp only; omega)
      · have := hW.size; simp; omega
    have c1 : Blk w2 w.heap.size 65 #[.string (bs l), .int .i64 3, .string (bs [58, 59]), .int .i64 i, .int .i64 i, .int .i64 0, .string ⟨#[]⟩, .int .i64 (-1), .bool false] := by
      refine Blk.below ?_ hb2 ?_
      · have s1 := (((((b1.set_ 3 (.int .i64 i)).set_ 4 (.int .i64 i)).set_ 5 (.int .i64 0)).set_ 6 (.string ⟨#[]⟩)).set_ 7 (.int .i64 (-1))).set_ 8 (.bool false)
        exact s1
      · have := b1.lt; simp; omega
    have c2 : Blk w2 (w.heap.size + 1) 65 #[.string ⟨#[]⟩, .int .i64 0, .string ⟨#[]⟩, .int .i64 0, .int .i64 0, .int .i64 0, .string ⟨#[]⟩, .int .i64 0, .bool false] := by
      refine Blk.below ?_ hb2 ?_
      · have s1 := (((((b2.far (p := ⟨w.heap.size, 3, none⟩) hne.symm (.int .i64 i)).far (p := ⟨w.heap.size, 4, none⟩) hne.symm (.int .i64 i)).far (p := ⟨w.heap.size, 5, none⟩) hne.symm (.int .i64 0)).far (p := ⟨w.heap.size, 6, none⟩) hne.symm (.string ⟨#[]⟩)).far (p := ⟨w.heap.size, 7, none⟩) hne.symm (.int .i64 (-1))).far (p := ⟨w.heap.size, 8, none⟩) hne.symm (.bool false)
        exact s1
      · have := b2.lt; simp; omega
    clear x0 x1 x2 x3 x4 x5 x6 x7 x8 xf y0 y1 y2 y3 y4 y5 y6 y7 y8 yf b1 b2 hb2
    obtain ⟨x0, x1, x2, x3, x4, x5, x6, x7, x8, xf⟩ := c1.cells9
    obtain ⟨y0, y1, y2, y3, y4, y5, y6, y7, y8, yf⟩ := c2.cells9
    clear HB2 hW
    go_wp2_with fail
    refine bodyPost_ret (v := .agg (rdC l ⟨i, kd, tt, wr, false⟩)) (by simp [rdC, results, Tryz.results35, go_sem, y0, y1, y2, y3, y4, y5, y6, y7, y8]) rfl ⟨rfl, ?_⟩
    repeat (with_reducible refine Below.setCell ?_ ?_ _)
    all_goals first | exact hs1 | (dsimp only; omega)
theorem refNext_calls (l : List UInt8) (hl : l.length ≤ 1000000) (r : Rr) (hr : r.at_ + r.text.length ≤ l.length) (w : World) :
    Calls Tryz.prog 35 #[.agg (rdC l r)] w fun e w' => e = .returned (.agg (rdC l (readAt 3 [58, 59] l (r.at_ + r.text.length)))) ∧ Below w.heap.size w w' :=
  refNext_any l hl r.at_ r.text hr _ _ _ _ w
set_option maxRecDepth 100000 in
set_option maxHeartbeats 1000000 in
theorem refRead_calls (l : List UInt8) (hl : l.length ≤ 1000000) (w : World) :
    Calls Tryz.prog 34 #[.string (bs l), .int .i64 3, .string (bs [58, 59])] w fun e w' => e = .returned (.agg (rdC l (readAt 3 [58, 59] l 0))) ∧ Below w.heap.size w w' := by
  have HN := Lib.hid (refNext_any l hl 0 [] (by simp) 0 0 0 false)
  simp only [List.length_nil, Nat.add_zero] at HN
  generalize readAt 3 [58, 59] l 0 = r at *
  unfold rdC at HN ⊢
  go_enter Tryz.func34, Tryz.ntmps34
  go_wp2_with fail
  refine (HN.out _).mono ?_
  rintro e w1 ⟨rfl, hb1⟩
  have b2 : Blk w1 w.heap.size 65 #[.string ⟨#[]⟩, .int .i64 0, .string ⟨#[]⟩, .int .i64 0, .int .i64 0, .int .i64 0, .string ⟨#[]⟩, .int .i64 0, .bool false] := ((Blk.new w _ _).alloc _).below hb1 (by simp; omega)
  obtain ⟨y0, y1, y2, y3, y4, y5, y6, y7, y8, yf⟩ := b2.cells9
  have hW : Below w.heap.size w w1 := bt hb1 (below2 _ _ _) (by simp; omega)
  clear hb1
  go_wp2_with fail
  refine bodyPost_ret (v := .agg #[.string (bs l), .int .i64 3, .string (bs [58, 59]), .int .i64 r.at_, .int .i64 r.at_, .int .i64 r.kind, .string (bs r.text), .int .i64 r.wrong, .bool r.none]) (by simp [results, Tryz.results34, go_sem, y0, y1, y2, y3, y4, y5, y6, y7, y8]) rfl ⟨rfl, ?_⟩
  repeat (with_reducible refine Below.setCell ?_ ?_ _)
  all_goals first | exact hW | (dsimp only; omega)
theorem own_row_lt {w : World} {base size n : Nat} {e : TypeId} {v : Value} {xs : List Value} (h : w.ownsRow base e size v n xs) {k : Nat} (hk : v.ownBlock = some k) : base ≤ k := by
  rcases h.2 with ⟨rfl, _⟩ | ⟨g, cap, cur, rfl, hb, _⟩
  · simp [Value.ownBlock] at hk
  · have e2 : g = k := by simpa [Value.ownBlock] using hk
    omega
end Go.Proofs.YtmlloonbommkhaaGreatDoor
end
section
set_option linter.all false
namespace Go.Proofs.YtmlloonbommkhaaGreatDoor
open Go.RowKit
theorem cutR_len (i : Nat) (L : List UInt8) : (cutR 3 [58, 59] i L).2.1.length ≤ L.length := by
  cases L with
  | nil => simp [cutR]
  | cons c L =>
    have h1 := takeWhile_le isL (c :: L)
    have h2 := takeWhile_le isD (c :: L)
    rw [cutR_cons]
    repeat' split
    all_goals simp only [List.length_take, List.length_cons, List.length_nil] at *
    all_goals omega
def OkR (l : List UInt8) (r : Rr) : Prop := r.at_ + r.text.length ≤ l.length
theorem okR_at (l : List UInt8) (i : Nat) (hi : i ≤ l.length) : OkR l (readAt 3 [58, 59] l i) := by
  have hle := lay_le false (l.drop i)
  rw [List.length_drop] at hle
  unfold OkR readAt
  split
  · simp; omega
  · have := cutR_len (i + lay false (l.drop i)) (l.drop (i + lay false (l.drop i)))
    rw [List.length_drop] at this
    dsimp only
    omega
abbrev fmC (l : List UInt8) (f : Fm) : Array Value := #[.string (bs l), .int .i64 3, .string (bs [58, 59]), .int .i64 f.r.at_, .int .i64 f.r.at_, .int .i64 f.r.kind, .string (bs f.r.text), .int .i64 f.r.wrong, .bool f.r.none, .int .i64 f.wrong]
abbrev FmAt (w : World) (F : Nat) (l : List UInt8) (f : Fm) : Prop := Blk w F 84 (fmC l f)
theorem Blk.cells10 {w : World} {g : Nat} {t : TypeId} {a b c d e f h i j k : Value} (H : Blk w g t #[a, b, c, d, e, f, h, i, j, k]) : w.cell? ⟨g, 0, none⟩ = some a ∧ w.cell? ⟨g, 1, none⟩ = some b ∧ w.cell? ⟨g, 2, none⟩ = some c ∧ w.cell? ⟨g, 3, none⟩ = some d ∧ w.cell? ⟨g, 4, none⟩ = some e ∧ w.cell? ⟨g, 5, none⟩ = some f ∧ w.cell? ⟨g, 6, none⟩ = some h ∧ w.cell? ⟨g, 7, none⟩ = some i ∧ w.cell? ⟨g, 8, none⟩ = some j ∧ w.cell? ⟨g, 9, none⟩ = some k ∧ ∀ i, w.frozen? ⟨g, i, none⟩ = false :=
  ⟨H.cell 0, H.cell 1, H.cell 2, H.cell 3, H.cell 4, H.cell 5, H.cell 6, H.cell 7, H.cell 8, H.cell 9, H.frozen⟩
theorem toList_ne (t : List UInt8) : (bs t).toList = t := by rw [ByteArray.toList_eq, bs_list]
theorem grown_out {w x y : World} {F b : Nat} (h : w.grownBy x (some F)) (hg : x.grownBy y (some b)) (hb : w.heap.size ≤ b) : w.grownBy y (some F) :=
  ⟨hg.os.trans h.os, hg.tape.trans h.tape, hg.output.trans h.output, Nat.le_trans h.size hg.size, fun j hj hR => (hg.block j (Nat.lt_of_lt_of_le hj h.size) (fun e => by injection e with e; omega)).trans (h.block j hj hR)⟩
theorem str_at {w : World} {n0 : Nat} {A : Option Addr} {c : Nat} {ws : List (List UInt8)} (h : w.ownsRow n0 9 1 (.slice A ws.length c) ws.length (strC ws)) (j : Nat) (x : List UInt8) (hj : ws[j]? = some x) : ∃ g, A = some ⟨g, 0, none⟩ ∧ w.cell? ⟨g, j, none⟩ = some (.string (bs x)) := by
  have hjl : j < ws.length := by
    rcases Nat.lt_or_ge j ws.length with h | h
    · exact h
    · rw [List.getElem?_eq_none h] at hj; cases hj
  rcases h.2 with ⟨_, h0⟩ | ⟨g, c', cur, hA, _, hg, hnc, hcm, hcs, htk⟩
  · have : ws = [] := by simpa [strC] using h0
    subst this; cases hj
  · injection hA with hA
    refine ⟨g, hA, ?_⟩
    have e2 : (cur.toList.take (ws.length * 1))[j]? = (strC ws)[j]? := by rw [htk]
    rw [List.getElem?_take, if_pos (by omega), strC, List.getElem?_map, hj] at e2
    exact (cell_of_row w g _ cur _ (0, 0) hg).trans (by simpa using e2)
theorem grown_drewN {w x : World} {F : Nat} (h : w.grownBy x (some F)) (n : Nat) : w.grownBy (x.drewN n) (some F) := ⟨h.os, h.tape, h.output, h.size, h.block⟩
theorem Blk.put10 {w : World} {g : Nat} {t : TypeId} {a b c d e f h i j k a' b' c' d' e' f' h' i' j' : Value} (H : Blk w g t #[a, b, c, d, e, f, h, i, j, k]) :
    Blk (((((((((w.setCell ⟨g, 0, none⟩ a').setCell ⟨g, 1, none⟩ b').setCell ⟨g, 2, none⟩ c').setCell ⟨g, 3, none⟩ d').setCell ⟨g, 4, none⟩ e').setCell ⟨g, 5, none⟩ f').setCell ⟨g, 6, none⟩ h').setCell ⟨g, 7, none⟩ i').setCell ⟨g, 8, none⟩ j') g t #[a', b', c', d', e', f', h', i', j', k] := by
  have h0 : Blk (w.setCell ⟨g, 0, none⟩ a') g t #[a', b, c, d, e, f, h, i, j, k] := H.set_ 0 a'
  have h1 : Blk ((w.setCell ⟨g, 0, none⟩ a').setCell ⟨g, 1, none⟩ b') g t #[a', b', c, d, e, f, h, i, j, k] := h0.set_ 1 b'
  have h2 : Blk (((w.setCell ⟨g, 0, none⟩ a').setCell ⟨g, 1, none⟩ b').setCell ⟨g, 2, none⟩ c') g t #[a', b', c', d, e, f, h, i, j, k] := h1.set_ 2 c'
  have h3 : Blk ((((w.setCell ⟨g, 0, none⟩ a').setCell ⟨g, 1, none⟩ b').setCell ⟨g, 2, none⟩ c').setCell ⟨g, 3, none⟩ d') g t #[a', b', c', d', e, f, h, i, j, k] := h2.set_ 3 d'
  have h4 : Blk (((((w.setCell ⟨g, 0, none⟩ a').setCell ⟨g, 1, none⟩ b').setCell ⟨g, 2, none⟩ c').setCell ⟨g, 3, none⟩ d').setCell ⟨g, 4, none⟩ e') g t #[a', b', c', d', e', f, h, i, j, k] := h3.set_ 4 e'
  have h5 : Blk ((((((w.setCell ⟨g, 0, none⟩ a').setCell ⟨g, 1, none⟩ b').setCell ⟨g, 2, none⟩ c').setCell ⟨g, 3, none⟩ d').setCell ⟨g, 4, none⟩ e').setCell ⟨g, 5, none⟩ f') g t #[a', b', c', d', e', f', h, i, j, k] := h4.set_ 5 f'
  have h6 : Blk (((((((w.setCell ⟨g, 0, none⟩ a').setCell ⟨g, 1, none⟩ b').setCell ⟨g, 2, none⟩ c').setCell ⟨g, 3, none⟩ d').setCell ⟨g, 4, none⟩ e').setCell ⟨g, 5, none⟩ f').setCell ⟨g, 6, none⟩ h') g t #[a', b', c', d', e', f', h', i, j, k] := h5.set_ 6 h'
  have h7 : Blk ((((((((w.setCell ⟨g, 0, none⟩ a').setCell ⟨g, 1, none⟩ b').setCell ⟨g, 2, none⟩ c').setCell ⟨g, 3, none⟩ d').setCell ⟨g, 4, none⟩ e').setCell ⟨g, 5, none⟩ f').setCell ⟨g, 6, none⟩ h').setCell ⟨g, 7, none⟩ i') g t #[a', b', c', d', e', f', h', i', j, k] := h6.set_ 7 i'
  have h8 : Blk (((((((((w.setCell ⟨g, 0, none⟩ a').setCell ⟨g, 1, none⟩ b').setCell ⟨g, 2, none⟩ c').setCell ⟨g, 3, none⟩ d').setCell ⟨g, 4, none⟩ e').setCell ⟨g, 5, none⟩ f').setCell ⟨g, 6, none⟩ h').setCell ⟨g, 7, none⟩ i').setCell ⟨g, 8, none⟩ j') g t #[a', b', c', d', e', f', h', i', j', k] := h7.set_ 8 j'
  exact h8
theorem grown_then {w x y : World} {F : Nat} (h : w.grownBy x (some F)) (hb : Below x.heap.size x y) : w.grownBy y (some F) :=
  ⟨hb.os.trans h.os, hb.tape.trans h.tape, hb.output.trans h.output, Nat.le_trans h.size hb.size, fun j hj hR => (hb.block j (Nat.lt_of_lt_of_le hj h.size)).trans (h.block j hj hR)⟩
theorem grown_nine {w x : World} {F : Nat} (hg : w.grownBy x (some F)) (a' b' c' d' e' f' h' i' j' : Value) : w.grownBy (((((((((x.setCell ⟨F, 0, none⟩ a').setCell ⟨F, 1, none⟩ b').setCell ⟨F, 2, none⟩ c').setCell ⟨F, 3, none⟩ d').setCell ⟨F, 4, none⟩ e').setCell ⟨F, 5, none⟩ f').setCell ⟨F, 6, none⟩ h').setCell ⟨F, 7, none⟩ i').setCell ⟨F, 8, none⟩ j') (some F) := by
  repeat (with_reducible refine grown_set ?_ _ _)
  exact hg
def anyW (ws : List (List UInt8)) (r : Rr) : Bool := ws.any (fun w => w == r.text && decide (r.wrong < 0))
theorem anyW_snoc (ws : List (List UInt8)) (x : List UInt8) (r : Rr) : anyW (ws ++ [x]) r = (anyW ws r || (x == r.text && decide (r.wrong < 0))) := by simp [anyW]
def kindB (k : Nat) (r : Rr) : Bool := !r.none && r.kind == k && (decide (k ≤ 2) || !r.text.isEmpty)
theorem takesB_eq (k : Nat) (ws : List (List UInt8)) (r : Rr) : takesB k ws r = (kindB k r && (ws.isEmpty || anyW ws r)) := rfl
theorem takes_v0 {kb b a : Bool} {ws : List (List UInt8)} (HB : Hid (b = (kb && (ws.isEmpty || a)))) (H : Hid ((kb && decide (0 < ws.length)) = false)) : Hid (b = kb) := by
  show _ = _
  rw [HB.out]
  have := H.out
  cases kb
  · rfl
  · have hz := of_decide_eq_false this
    have : ws = [] := List.length_eq_zero_iff.1 (by omega)
    rw [this]; rfl
theorem takes_v1 {kb b a : Bool} {ws : List (List UInt8)} (HB : Hid (b = (kb && (ws.isEmpty || a)))) (H : Hid ((kb && decide (0 < ws.length)) = true)) : Hid (b = a) := by
  show _ = _
  rw [HB.out]
  have h := H.out
  rw [Bool.and_eq_true] at h
  obtain ⟨h1, h2⟩ := h
  have hz := of_decide_eq_true h2
  rw [h1]
  cases ws with
  | nil => simp at hz
  | cons x r => rfl
set_option maxRecDepth 100000 in
set_option maxHeartbeats 8000000 in
theorem takes_calls (F : Nat) (l : List UInt8) (hl : l.length ≤ 1000000) (f : Fm) (hok : OkR l f.r) (k : Nat) (ws : List (List UInt8)) (hws : ws.length ≤ 1000) (n0 : Nat) (v : Value) (w : World) (h : FmAt w F l f) (hrow : w.ownsRow n0 9 1 v ws.length (strC ws)) (hk : k ≤ 1000) :
    Calls Tryz.prog 71 #[.pointer (some ⟨F, 0, none⟩), .int .i64 k, v] w fun e w' => e = .returned (.agg #[.int .i64 f.r.at_, .int .i64 f.r.kind, .string (bs f.r.text)]) ∧ FmAt w' F l (takesR 3 [58, 59] l k ws f) ∧ w.grownBy w' (some F) := by
  have HN := Lib.hid (fun W => refNext_calls l hl f.r hok W)
  obtain ⟨r2, Hr2⟩ : ∃ x, Hid (nextR 3 [58, 59] l f.r = x) := ⟨_, rfl⟩
  have e2 : readAt 3 [58, 59] l (f.r.at_ + f.r.text.length) = r2 := Hr2.out
  rw [e2] at HN
  unfold rdC at HN
  clear e2
  have hFl := Blk.lt (t := 84) h
  have hh1 := Blk.alloc h (.cells #[.int .i64 0, .int .i64 0, .string ⟨#[]⟩] 34)
  have hx := Blk.alloc (Blk.alloc h (.cells #[.int .i64 0, .int .i64 0, .string ⟨#[]⟩] 34)) (.cells #[.int .i64 f.r.at_, .int .i64 f.r.kind, .string (bs f.r.text)] 34)
  have b2 := (Blk.new w 34 #[.int .i64 0, .int .i64 0, .string ⟨#[]⟩]).alloc (.cells #[.int .i64 f.r.at_, .int .i64 f.r.kind, .string (bs f.r.text)] 34)
  have b3 := Blk.at_ (w.alloc (.cells #[.int .i64 0, .int .i64 0, .string ⟨#[]⟩] 34)) 34 #[.int .i64 f.r.at_, .int .i64 f.r.kind, .string (bs f.r.text)] (n := w.heap.size + 1) (by simp)
  have hrowa := own_below hrow (below2 w (.cells #[.int .i64 0, .int .i64 0, .string ⟨#[]⟩] 34) (.cells #[.int .i64 f.r.at_, .int .i64 f.r.kind, .string (bs f.r.text)] 34)) (Nat.le_refl _)
  have hG : w.grownBy ((w.alloc (.cells #[.int .i64 0, .int .i64 0, .string ⟨#[]⟩] 34)).alloc (.cells #[.int .i64 f.r.at_, .int .i64 f.r.kind, .string (bs f.r.text)] 34)) (some F) := grown_below (below2 _ _ _) _
  obtain ⟨A, c, rfl⟩ := own_form hrow
  have Hst := Lib.hid (fun j x hj => str_at hrowa j x hj)
  have HG := Lib.hid hG
  obtain ⟨x0, x1, x2, x3, x4, x5, x6, x7, x8, x9, xf⟩ := Blk.cells10 hh1
  clear hrow hrowa hG h
  obtain ⟨f', Hf⟩ : ∃ x, Hid (takesR 3 [58, 59] l k ws f = x) := ⟨_, rfl⟩
  rw [Hf.out]
  go_enter Tryz.func71, Tryz.ntmps71
  go_upto_region 2 with fail
  clear x0 x1 x2 x3 x4 x5 x6 x7 x8 x9 xf hh1
  have hFs : F ≠ w.heap.size := by omega
  have hFs1 : F ≠ w.heap.size + 1 := by omega
  generalize (w.alloc (.cells #[.int .i64 0, .int .i64 0, .string ⟨#[]⟩] 34)).alloc (.cells #[.int .i64 f.r.at_, .int .i64 f.r.kind, .string (bs f.r.text)] 34) = wa at *
  obtain ⟨x0, x1, x2, x3, x4, x5, x6, x7, x8, x9, xf⟩ := Blk.cells10 hx
  have z0 := b2.cell 0
  have z1 := b2.cell 1
  have z2 := b2.cell 2
  have zf := b2.frozen
  have t0 := b3.cell 0
  have t1 := b3.cell 1
  have t2 := b3.cell 2
  have tf := b3.frozen
  simp at z0 z1 z2 t0 t1 t2
  by_cases hw : 0 ≤ f.wrong
  · have Hr : Hid (f' = f) := by show _ = _; rw [← Hf.out]; unfold takesR; rw [if_pos hw]
    go_wp2_with fail
    refine bodyPost_ret (v := .agg #[.int .i64 f.r.at_, .int .i64 f.r.kind, .string (bs f.r.text)]) (by simp [results, Tryz.results71, go_sem, z0, z1, z2]) rfl ⟨rfl, by rw [Hr.out]; exact ((hx.far hFs _).far hFs _).far hFs _, ?_⟩
    exact grown_out HG.out (grown_put3 _ _ _ _ _) (Nat.le_refl _)
  · have Hr : Hid (f' = if takesB k ws f.r = false then ⟨f.r, f.r.at_⟩ else if 0 ≤ f.r.wrong then ⟨f.r, f.r.wrong⟩ else ⟨nextR 3 [58, 59] l f.r, f.wrong⟩) := by show _ = _; rw [← Hf.out]; unfold takesR; rw [if_neg hw]
    go_upto_region 4 with fail
    go_cut [8] (fun s8 wx => s8 = .bool (kindB k f.r) ∧ wx = wa)
    case first =>
      cases hn : f.r.none
      · rw [hn] at x8
        by_cases hk1 : f.r.kind = k
        · have hk2 : ((f.r.kind : Int) == (k : Int)) = true := by rw [hk1]; exact beq_self_eq_true _
          by_cases h2 : k ≤ 2
          · have Hb : Hid (kindB k f.r = true) := by show _ = _; unfold kindB; rw [hn, hk1]; simp [h2]
            have h3 : decide ((k : Int) ≤ 2) = true := decide_eq_true (by omega)
            clear hk1
            go_wp2_with fail
            go_meet
            exact ⟨by rw [Hb.out], rfl⟩
          · have h3 : decide ((k : Int) ≤ 2) = false := decide_eq_false (by omega)
            cases ht : f.r.text with
            | nil =>
              have Hb : Hid (kindB k f.r = false) := by show _ = _; unfold kindB; rw [hn, hk1, ht]; simp [h2]
              have e1 : (bs ([] : List UInt8)).toList = [] := toList_ne []
              rw [ht] at t2
              clear hk1
              go_wp2_with fail
              go_meet
              exact ⟨by rw [Hb.out], rfl⟩
            | cons b r =>
              have Hb : Hid (kindB k f.r = true) := by show _ = _; unfold kindB; rw [hn, hk1, ht]; simp
              have e1 : (bs (b :: r)).toList = b :: r := toList_ne _
              rw [ht] at t2
              clear hk1
              go_wp2_with fail
              go_meet
              exact ⟨by rw [Hb.out], rfl⟩
        · have hk2 : ((f.r.kind : Int) == (k : Int)) = false := by rw [beq_eq_false_iff_ne]; omega
          have Hb : Hid (kindB k f.r = false) := by show _ = _; unfold kindB; rw [show (f.r.kind == k) = false by simpa using hk1]; simp
          clear hk1
          go_wp2_with fail
          go_meet
          exact ⟨by rw [Hb.out], rfl⟩
      · rw [hn] at x8
        have Hb : Hid (kindB k f.r = false) := by show _ = _; unfold kindB; rw [hn]; rfl
        go_wp2_with fail
        go_meet
        exact ⟨by rw [Hb.out], rfl⟩
    case rest =>
      obtain ⟨rfl, hw1⟩ := hcut
      have hw1 := hw1.symm
      subst hw1
      have HB : Hid (takesB k ws f.r = (kindB k f.r && (ws.isEmpty || anyW ws f.r))) := takesB_eq k ws f.r
      generalize kindB k f.r = kb at *
      go_upto_region 5 with fail
      go_cut [8, 47] (fun s8 s47 wx => s8 = .bool kb ∧ s47 = .bool (kb && decide (0 < ws.length)) ∧ wx = wa)
      case first =>
        cases kb
        · go_wp2_with fail
          go_meet
          exact ⟨rfl, rfl, rfl⟩
        · go_wp2_with fail
          go_meet
          exact ⟨rfl, rfl, rfl⟩
      case rest =>
        obtain ⟨rfl, rfl, hw1⟩ := hcut
        have hw1 := hw1.symm
        subst hw1
        obtain ⟨b47, H47⟩ : ∃ b, Hid ((kb && decide (0 < ws.length)) = b) := ⟨_, rfl⟩
        rw [H47.out]
        go_upto_if 47 with fail
        go_cut [8] (fun s8 wx => s8 = .bool (takesB k ws f.r) ∧ ∃ m, wx = wa.drewN m)
        case first =>
          cases b47
          · have Hv : Hid (takesB k ws f.r = kb) := takes_v0 HB H47
            go_wp2_with fail
            go_meet
            exact ⟨by rw [Hv.out], 0, rfl⟩
          · have Hv : Hid (takesB k ws f.r = anyW ws f.r) := takes_v1 HB H47
            go_wp2_with fail
            go_loopg [8, 9] ws.length (fun gk s8 s9 wr => ∃ j m : Nat, j + gk = ws.length ∧ s9 = .int .i64 j ∧ s8 = .bool (anyW (ws.take j) f.r) ∧ wr = wa.drewN m)
            case atStart => exact ⟨0, 0, by omega, rfl, rfl, rfl⟩
            case round =>
              obtain ⟨j, m, hj, rfl, rfl, rfl⟩ := hrel
              cases gk with
              | zero =>
                obtain rfl : j = ws.length := by omega
                rw [List.take_length]
                go_wp2_with fail
                go_meet
                exact ⟨by rw [Hv.out], m, rfl⟩
              | succ gk =>
                have hlt : j < ws.length := by omega
                obtain ⟨x, hxw⟩ : ∃ x, ws[j]? = some x := ⟨ws[j], List.getElem?_eq_getElem hlt⟩
                have Hnx : Hid (anyW (ws.take (j + 1)) f.r = (anyW (ws.take j) f.r || (x == f.r.text && decide (f.r.wrong < 0)))) := by show _ = _; rw [List.take_add_one, hxw]; exact anyW_snoc _ _ _
                obtain ⟨g, hA, hc⟩ := Hst.out j x hxw
                subst hA
                clear hxw
                have hn1 : (j : Int) < (ws.length : Int) := by omega
                have hn0 : (0 : Int) ≤ (j : Int) := by omega
                generalize anyW (ws.take j) f.r = ab at *
                cases ab
                · cases hxt : x == f.r.text
                  · have hb1 : ((bs x).toList == (bs f.r.text).toList) = false := (bs_beq _ _).trans hxt
                    have Hy : Hid (anyW (ws.take (j + 1)) f.r = false) := by show _ = _; rw [Hnx.out, hxt]; rfl
                    clear hxt
                    go_upto_region 10 with fail
                    go_quiet (fail)
                    go_wp2_with fail
                    go_roundg gk
                    case measure => omega
                    case rel => exact ⟨j + 1, _, by omega, by go_num, by rw [Hy.out], rfl⟩
                  · have hb1 : ((bs x).toList == (bs f.r.text).toList) = true := (bs_beq _ _).trans hxt
                    cases hwr : decide (f.r.wrong < 0)
                    · have Hy : Hid (anyW (ws.take (j + 1)) f.r = false) := by show _ = _; rw [Hnx.out, hxt, hwr]; rfl
                      clear hxt
                      go_upto_region 10 with fail
                      go_quiet (fail)
                      go_wp2_with fail
                      go_roundg gk
                      case measure => omega
                      case rel => exact ⟨j + 1, _, by omega, by go_num, by rw [Hy.out], rfl⟩
                    · have Hy : Hid (anyW (ws.take (j + 1)) f.r = true) := by show _ = _; rw [Hnx.out, hxt, hwr]; rfl
                      clear hxt
                      go_upto_region 10 with fail
                      go_quiet (fail)
                      go_wp2_with fail
                      go_roundg gk
                      case measure => omega
                      case rel => exact ⟨j + 1, _, by omega, by go_num, by rw [Hy.out], rfl⟩
                · have Hy : Hid (anyW (ws.take (j + 1)) f.r = true) := by show _ = _; rw [Hnx.out]; rfl
                  go_upto_region 10 with fail
                  go_quiet (fail)
                  go_wp2_with fail
                  go_roundg gk
                  case measure => omega
                  case rel => exact ⟨j + 1, _, by omega, by go_num, by rw [Hy.out], rfl⟩
        case rest =>
          obtain ⟨rfl, m, hw1⟩ := hcut
          subst hw1
          clear HB
          generalize takesB k ws f.r = tb at *
          have hx := hx.drewN m
          have HG2 := Lib.hid (grown_drewN HG.out m)
          have hzs : w.heap.size ≤ (wa.drewN m).heap.size := HG2.out.size
          cases tb
          · have Hr : Hid (f' = ⟨f.r, f.r.at_⟩) := by show _ = _; rw [Hr.out]; rfl
            go_wp2_with fail
            refine bodyPost_ret (v := .agg #[.int .i64 f.r.at_, .int .i64 f.r.kind, .string (bs f.r.text)]) (by simp [results, Tryz.results71, go_sem, z0, z1, z2]) rfl ⟨rfl, by rw [Hr.out]; exact (((hx.set_ 9 _).far hFs _).far hFs _).far hFs _, ?_⟩
            exact grown_out (grown_set HG2.out 9 _) (grown_put3 _ _ _ _ _) (Nat.le_refl _)
          · by_cases hwr : 0 ≤ f.r.wrong
            · have Hr : Hid (f' = ⟨f.r, f.r.wrong⟩) := by show _ = _; rw [Hr.out, if_neg (by simp), if_pos hwr]
              go_wp2_with fail
              refine bodyPost_ret (v := .agg #[.int .i64 f.r.at_, .int .i64 f.r.kind, .string (bs f.r.text)]) (by simp [results, Tryz.results71, go_sem, z0, z1, z2]) rfl ⟨rfl, by rw [Hr.out]; exact (((hx.set_ 9 _).far hFs _).far hFs _).far hFs _, ?_⟩
              exact grown_out (grown_set HG2.out 9 _) (grown_put3 _ _ _ _ _) (Nat.le_refl _)
            · have Hr : Hid (f' = ⟨r2, f.wrong⟩) := by show _ = _; rw [Hr.out, if_neg (by simp), if_neg hwr, Hr2.out]
              go_upto_region 11 with fail
              go_wp2_with fail
              refine (HN.out _).mono ?_
              rintro e w9 ⟨rfl, hb9⟩
              have hx9 := hx.below hb9 hx.lt
              have c2 := (b2.drewN m).below hb9 (b2.drewN m).lt
              have c3 := (b3.drewN m).below hb9 (b3.drewN m).lt
              have HG9 := Lib.hid (grown_then HG2.out hb9)
              clear HG2 hb9 hx b2 b3 x0 x1 x2 x3 x4 x5 x6 x7 x8 x9 xf z0 z1 z2 zf t0 t1 t2 tf
              obtain ⟨x0, x1, x2, x3, x4, x5, x6, x7, x8, x9, xf⟩ := Blk.cells10 hx9
              have z0 := c2.cell 0
              have z1 := c2.cell 1
              have z2 := c2.cell 2
              have zf := c2.frozen
              have t0 := c3.cell 0
              have t1 := c3.cell 1
              have t2 := c3.cell 2
              have tf := c3.frozen
              simp at z0 z1 z2 t0 t1 t2
              go_wp2_with fail
              refine bodyPost_ret (v := .agg #[.int .i64 f.r.at_, .int .i64 f.r.kind, .string (bs f.r.text)]) (by simp [results, Tryz.results71, go_sem, z0, z1, z2]) rfl ⟨rfl, by rw [Hr.out]; exact ((hx9.put10.far hFs _).far hFs _).far hFs _, ?_⟩
              exact grown_out (grown_nine HG9.out _ _ _ _ _ _ _ _ _) (grown_put3 _ _ _ _ _) (Nat.le_refl _)
end Go.Proofs.YtmlloonbommkhaaGreatDoor
end
section
set_option linter.all false
namespace Go.Proofs.YtmlloonbommkhaaGreatDoor
open Go.RowKit
theorem sub48 (c : UInt8) : ((c - 48).toNat : Int) = ((c.toNat : Int) - 48) % 256 := by
  have h : (c - 48).toNat = (256 - 48 + c.toNat) % 256 := UInt8.toNat_sub c 48
  omega
theorem numV_snoc (l : List UInt8) (c : UInt8) : numV (l ++ [c]) = 10 * numV l + (c - 48).toNat := by simp [numV, List.foldl_append]
theorem numV_le (l : List UInt8) : numV l + 29 ≤ 29 * 10 ^ l.length := by
  have key : ∀ (l : List UInt8) (n k : Nat), n + 29 ≤ 29 * 10 ^ k → l.foldl (fun n c => 10 * n + (c - 48).toNat) n + 29 ≤ 29 * 10 ^ (k + l.length) := by
    intro l
    induction l with
    | nil => intro n k h; exact h
    | cons c l ih =>
      intro n k h
      have h2 : (c - 48).toNat < 256 := (c - 48).toNat_lt
      have h3 : 10 ^ (k + 1) = 10 * 10 ^ k := by rw [Nat.pow_succ]; omega
      have := ih (10 * n + (c - 48).toNat) (k + 1) (by rw [h3]; omega)
      rw [List.foldl_cons, List.length_cons, show k + (l.length + 1) = k + 1 + l.length by omega]
      exact this
  simpa [numV] using key l 0 0 (by omega)
theorem numV_fits (l : List UInt8) (h : l.length ≤ 14) : numV l ≤ 2900000000000000 := by
  have h1 := numV_le l
  have h2 : 10 ^ l.length ≤ 10 ^ 14 := Nat.pow_le_pow_right (by decide) h
  have h3 : (10 : Nat) ^ 14 = 100000000000000 := by decide
  omega
set_option maxRecDepth 100000 in
set_option maxHeartbeats 4000000 in
theorem refNumber_calls (x y : Int) (t : List UInt8) (ht : t.length ≤ 1000000) (w : World) :
    Calls Tryz.prog 72 #[.agg #[.int .i64 x, .int .i64 y, .string (bs t)]] w fun e w' => ∃ n : Int, e = .returned (.int .i64 n) ∧ (t.length ≤ 15 → n = numV t) ∧ Below w.heap.size w w' := by
  have hsz : (bs t).size = t.length := bs_size t
  by_cases h15 : t.length ≤ 15
  · go_enter Tryz.func72, Tryz.ntmps72
    have b1 := Blk.new w 34 #[.int .i64 x, .int .i64 y, .string (bs t)]
    have t2 : (w.alloc (.cells #[.int .i64 x, .int .i64 y, .string (bs t)] 34)).cell? ⟨w.heap.size, 2, none⟩ = some (.string (bs t)) := b1.cell 2
    have tf := b1.frozen
    have hW := below1 w (.cells #[.int .i64 x, .int .i64 y, .string (bs t)] 34)
    go_wp2_with fail
    generalize w.alloc (.cells #[.int .i64 x, .int .i64 y, .string (bs t)] 34) = wa at *
    go_loopg [3, 4] t.length (fun gk s3 s4 wr => ∃ j : Nat, j + gk = t.length ∧ s4 = .int .i64 j ∧ s3 = .int .i64 (numV (t.take j) : Nat) ∧ wr = wa)
    case atStart => exact ⟨0, by omega, rfl, rfl, rfl⟩
    case round =>
      obtain ⟨j, hj, rfl, rfl, rfl⟩ := hrel
      cases gk with
      | zero =>
        obtain rfl : j = t.length := by omega
        rw [List.take_length]
        go_wp2_with fail
        go_ret
        exact ⟨_, rfl, fun _ => rfl, hW⟩
      | succ gk =>
        have hlt : j < t.length := by omega
        obtain ⟨c, hc, hg⟩ := drop_cons_get hlt
        have Hn : Hid (numV (t.take (j + 1)) = 10 * numV (t.take j) + (c - 48).toNat) := by
          show _ = _
          have h2 : t.take (j + 1) = t.take j ++ [c] := by
            rw [List.take_add_one]
            have h3 := congrArg List.head? hc
            rw [List.head?_drop] at h3
            rw [h3]; rfl
          rw [h2, numV_snoc]
        have hf := numV_fits (t.take j) (by rw [List.length_take]; omega)
        have hn1 : (j : Int) < (t.length : Int) := by omega
        have hn0 : (0 : Int) ≤ (j : Int) := by omega
        have hc2 : (c - 48).toNat < 256 := (c - 48).toNat_lt
        generalize numV (t.take j) = n at *
        clear hc
        go_wp2_with fail
        go_roundg gk
        case measure => omega
        case rel => exact ⟨j + 1, by omega, by go_num, by rw [Hn.out]; have hc3 := sub48 c; go_num, rfl⟩
  · go_enter Tryz.func72, Tryz.ntmps72
    have b1 := Blk.new w 34 #[.int .i64 x, .int .i64 y, .string (bs t)]
    have t2 : (w.alloc (.cells #[.int .i64 x, .int .i64 y, .string (bs t)] 34)).cell? ⟨w.heap.size, 2, none⟩ = some (.string (bs t)) := b1.cell 2
    have tf := b1.frozen
    have hW := below1 w (.cells #[.int .i64 x, .int .i64 y, .string (bs t)] 34)
    go_wp2_with fail
    generalize w.alloc (.cells #[.int .i64 x, .int .i64 y, .string (bs t)] 34) = wa at *
    go_loopg [3, 4] t.length (fun gk s3 s4 wr => ∃ (j : Nat) (n : Int), j + gk = t.length ∧ s4 = .int .i64 j ∧ s3 = .int .i64 n ∧ wr = wa)
    case atStart => exact ⟨0, 0, by omega, rfl, rfl, rfl⟩
    case round =>
      obtain ⟨j, n, hj, rfl, rfl, rfl⟩ := hrel
      cases gk with
      | zero =>
        obtain rfl : j = t.length := by omega
        go_wp2_with fail
        go_ret
        exact ⟨_, rfl, fun h => absurd h h15, hW⟩
      | succ gk =>
        have hlt : j < t.length := by omega
        obtain ⟨c, hc, hg⟩ := drop_cons_get hlt
        have hn1 : (j : Int) < (t.length : Int) := by omega
        have hn0 : (0 : Int) ≤ (j : Int) := by omega
        clear hc
        go_wp2_with fail
        go_roundg gk
        case measure => omega
        case rel => exact ⟨j + 1, _, by omega, by go_num, rfl, rfl⟩
set_option maxRecDepth 100000 in
set_option maxHeartbeats 4000000 in
theorem refIs_calls (F : Nat) (l : List UInt8) (f : Fm) (t : List UInt8) (w : World) (h : FmAt w F l f) :
    Calls Tryz.prog 73 #[.pointer (some ⟨F, 0, none⟩), .string (bs t)] w fun e w' => e = .returned (.bool (isR t f)) ∧ Below w.heap.size w w' := by
  obtain ⟨x0, x1, x2, x3, x4, x5, x6, x7, x8, x9, xf⟩ := Blk.cells10 h
  obtain ⟨b, Hb⟩ : ∃ x, Hid (isR t f = x) := ⟨_, rfl⟩
  rw [Hb.out]
  have Hp : Hid ((decide (f.wrong < 0) && !f.r.none && decide (f.r.wrong < 0) && f.r.kind == 1 && f.r.text == t) = b) := Hb.out
  clear Hb h
  cases h1 : decide (f.wrong < 0)
  · have Hv : Hid (b = false) := by show _ = _; rw [← Hp.out, h1]; rfl
    go_enter Tryz.func73, Tryz.ntmps73
    go_wp2_with fail
    go_ret
    exact ⟨by rw [Hv.out] <;> rfl, Below.refl _ _⟩
  · cases h2 : f.r.none
    · rw [h2] at x8
      cases h3 : decide (f.r.wrong < 0)
      · have Hv : Hid (b = false) := by show _ = _; rw [← Hp.out, h1, h2, h3]; rfl
        go_enter Tryz.func73, Tryz.ntmps73
        go_wp2_with fail
        go_ret
        exact ⟨by rw [Hv.out] <;> rfl, Below.refl _ _⟩
      · by_cases h4 : f.r.kind = 1
        · rw [h4] at x5
          cases h5 : f.r.text == t
          · have Hv : Hid (b = false) := by show _ = _; rw [← Hp.out, h1, h2, h3, h4, h5]; rfl
            have e5 : ((bs f.r.text).toList == (bs t).toList) = false := (bs_beq _ _).trans h5
            clear h4 h5
            go_enter Tryz.func73, Tryz.ntmps73
            go_wp2_with fail
            go_ret
            exact ⟨by rw [Hv.out] <;> rfl, Below.refl _ _⟩
          · have Hv : Hid (b = true) := by show _ = _; rw [← Hp.out, h1, h2, h3, h4, h5]; rfl
            have e5 : ((bs f.r.text).toList == (bs t).toList) = true := (bs_beq _ _).trans h5
            clear h4 h5
            go_enter Tryz.func73, Tryz.ntmps73
            go_wp2_with fail
            go_ret
            exact ⟨by rw [Hv.out] <;> rfl, Below.refl _ _⟩
        · have h4b : (f.r.kind == 1) = false := by simpa using h4
          have Hv : Hid (b = false) := by show _ = _; rw [← Hp.out, h1, h2, h3, h4b]; rfl
          have h4c : ((f.r.kind : Int) == 1) = false := by rw [beq_eq_false_iff_ne]; omega
          clear h4 h4b
          go_enter Tryz.func73, Tryz.ntmps73
          go_wp2_with fail
          go_ret
          exact ⟨by rw [Hv.out] <;> rfl, Below.refl _ _⟩
    · rw [h2] at x8
      have Hv : Hid (b = false) := by show _ = _; rw [← Hp.out, h1, h2]; rfl
      go_enter Tryz.func73, Tryz.ntmps73
      go_wp2_with fail
      go_ret
      exact ⟨by rw [Hv.out] <;> rfl, Below.refl _ _⟩
end Go.Proofs.YtmlloonbommkhaaGreatDoor
end
section
set_option linter.all false
namespace Go.Proofs.YtmlloonbommkhaaGreatDoor
open Go.RowKit
def OkT (l : List UInt8) (r : Rr) : Prop := OkR l r ∧ r.text.length ≤ 8
theorem cutR_short (i : Nat) (L : List UInt8) : (cutR 3 [58, 59] i L).2.1.length ≤ 8 := by
  cases L with
  | nil => simp [cutR]
  | cons c L =>
    rw [cutR_cons]
    repeat' split
    all_goals simp only [List.length_take, List.length_cons, List.length_nil]
    all_goals omega
theorem okT_at (l : List UInt8) (i : Nat) (hi : i ≤ l.length) : OkT l (readAt 3 [58, 59] l i) := by
  refine ⟨okR_at l i hi, ?_⟩
  unfold readAt
  split
  · simp
  · exact cutR_short _ _
theorem okT_tk {l : List UInt8} {f : Fm} (h : OkT l f.r) (k : Nat) (ws : List (List UInt8)) : OkT l (tk l k ws f).r := by
  show OkT l (takesR 3 [58, 59] l k ws f).r
  unfold takesR
  repeat' split
  · exact h
  · exact h
  · exact h
  · exact okT_at l _ h.1
abbrev tokV (r : Rr) : Value := .agg #[.int .i64 r.at_, .int .i64 r.kind, .string (bs r.text)]
theorem tk_calls (F : Nat) (l : List UInt8) (hl : l.length ≤ 1000000) (f : Fm) (hok : OkT l f.r) (k : Nat) (ki : Int) (hki : ki = k) (hk : k ≤ 1000) (w : World) (h : FmAt w F l f) :
    Calls Tryz.prog 71 #[.pointer (some ⟨F, 0, none⟩), .int .i64 ki, .slice none 0 0] w fun e w' => e = .returned (tokV f.r) ∧ FmAt w' F l (tk l k [] f) ∧ w.grownBy w' (some F) := by
  subst hki
  exact takes_calls F l hl f hok.1 k [] (by simp) 0 _ w h (World.ownsRow_nil _ _ _ _) hk
theorem num_calls (r : Rr) (hr : r.text.length ≤ 8) (w : World) :
    Calls Tryz.prog 72 #[tokV r] w fun e w' => e = .returned (.int .i64 (numR r.text)) ∧ Below w.heap.size w w' :=
  (refNumber_calls _ _ r.text (by omega) w).mono fun _ _ ⟨n, he, hn, hb⟩ => ⟨by rw [he, hn (by omega)], hb⟩
theorem headR_fst (l : List UInt8) (f : Fm) (a b c d : Fm) (ha : tk l 1 [[119, 105, 114, 101, 115]] f = a) (hb : tk l 2 [] a = b) (hc : tk l 1 [] b = c) (hd : tk l 2 [] c = d) :
    headR l f = (numR a.r.text, (if isR [98, 105, 116, 115] b then (numR c.r.text, d) else (0, b)).1, tk l 59 [] (if isR [98, 105, 116, 115] b then (numR c.r.text, d) else (0, b)).2) := by
  subst ha hb hc hd; rfl
set_option maxRecDepth 100000 in
set_option maxHeartbeats 4000000 in
theorem header_calls (F : Nat) (l : List UInt8) (hl : l.length ≤ 1000000) (f : Fm) (hok : OkT l f.r) (w : World) (h : FmAt w F l f) :
    Calls Tryz.prog 41 #[.pointer (some ⟨F, 0, none⟩)] w fun e w' => e = .returned (.tuple #[.int .i64 (headR l f).1, .int .i64 (headR l f).2.1]) ∧ FmAt w' F l (headR l f).2.2 ∧ w.grownBy w' (some F) := by
  obtain ⟨a, Ha⟩ : ∃ x, Hid (tk l 1 [[119, 105, 114, 101, 115]] f = x) := ⟨_, rfl⟩
  obtain ⟨b, Hb⟩ : ∃ x, Hid (tk l 2 [] a = x) := ⟨_, rfl⟩
  obtain ⟨c, Hc⟩ : ∃ x, Hid (tk l 1 [] b = x) := ⟨_, rfl⟩
  obtain ⟨d, Hd⟩ : ∃ x, Hid (tk l 2 [] c = x) := ⟨_, rfl⟩
  have oa : OkT l a.r := by rw [← Ha.out]; exact okT_tk hok _ _
  have ob : OkT l b.r := by rw [← Hb.out]; exact okT_tk oa _ _
  have oc : OkT l c.r := by rw [← Hc.out]; exact okT_tk ob _ _
  have od : OkT l d.r := by rw [← Hd.out]; exact okT_tk oc _ _
  have T1 := Lib.hid (fun n0 v W h hrow => takes_calls F l hl f hok.1 1 [[119, 105, 114, 101, 115]] (by simp) n0 v W h hrow (by decide))
  have T2 := Lib.hid (fun W h => tk_calls F l hl a oa 2 2 rfl (by decide) W h)
  have T3 := Lib.hid (fun W h => tk_calls F l hl b ob 1 1 rfl (by decide) W h)
  have T4 := Lib.hid (fun W h => tk_calls F l hl c oc 2 2 rfl (by decide) W h)
  have T5 := Lib.hid (fun (g : Fm) (og : OkT l g.r) W h => tk_calls F l hl g og 59 59 rfl (by decide) W h)
  have N1 := Lib.hid (fun W => num_calls a.r oa.2 W)
  have N2 := Lib.hid (fun W => num_calls c.r oc.2 W)
  have I1 := Lib.hid (fun W h => refIs_calls F l b [98, 105, 116, 115] W h)
  change Hid (∀ n0 v W h hrow, Calls _ _ _ _ fun e w' => e = _ ∧ FmAt w' F l (tk l 1 [[119, 105, 114, 101, 115]] f) ∧ _) at T1
  rw [Ha.out] at T1
  rw [Hb.out] at T2
  rw [Hc.out] at T3
  rw [Hd.out] at T4
  rw [headR_fst l f a b c d Ha.out Hb.out Hc.out Hd.out]
  unfold tokV at T2 T3 T4 T5 N1 N2
  have Oa := Lib.hid oa
  have Ob := Lib.hid ob
  have Od := Lib.hid od
  clear oa ob oc od Ha Hb Hc Hd hok
  have hF := h.lt
  have h1 := Blk.alloc h (.cells #[.string ⟨#[119, 105, 114, 101, 115]⟩] 9)
  have hr1 : (w.alloc (.cells #[.string ⟨#[119, 105, 114, 101, 115]⟩] 9)).ownsRow w.heap.size 9 1 (.slice (some ⟨w.heap.size, 0, none⟩) 1 1) 1 (strC [[119, 105, 114, 101, 115]]) := World.ownsRow_lit w #[.string ⟨#[119, 105, 114, 101, 115]⟩] 1 (Nat.le_refl _) (by decide) rfl
  have g1 : w.grownBy (w.alloc (.cells #[.string ⟨#[119, 105, 114, 101, 115]⟩] 9)) (some F) := grown_below (below1 _ _) _
  cases hb0 : isR [98, 105, 116, 115] b
  · rw [if_neg (by simp)]
    rw [hb0] at I1
    go_enter Tryz.func41, Tryz.ntmps41
    go_wp2_with fail
    refine (T1.out _ _ _ h1 hr1).mono ?_
    rintro e w1 ⟨rfl, h2, g2⟩
    have g2 := grown_trans g1 g2
    go_wp2_with fail
    refine (T2.out _ h2).mono ?_
    rintro e w3 ⟨rfl, h3, g3⟩
    have g3 := grown_trans g2 g3
    go_wp2_with fail
    refine (N1.out _).mono ?_
    rintro e w4 ⟨rfl, hb4⟩
    have h4 := h3.below hb4 h3.lt
    have g4 := grown_via g3 hb4
    go_wp2_with fail
    refine (I1.out _ h4).mono ?_
    rintro e w5 ⟨rfl, hb5⟩
    have h5 := h4.below hb5 h4.lt
    have g5 := grown_via g4 hb5
    go_wp2_with fail
    refine (T5.out b Ob.out _ h5).mono ?_
    rintro e w6 ⟨rfl, h6, g6⟩
    have g6 := grown_trans g5 g6
    go_wp2_with fail
    go_ret2
    exact ⟨rfl, h6, g6⟩
  · rw [if_pos rfl]
    rw [hb0] at I1
    go_enter Tryz.func41, Tryz.ntmps41
    go_wp2_with fail
    refine (T1.out _ _ _ h1 hr1).mono ?_
    rintro e w1 ⟨rfl, h2, g2⟩
    have g2 := grown_trans g1 g2
    go_wp2_with fail
    refine (T2.out _ h2).mono ?_
    rintro e w3 ⟨rfl, h3, g3⟩
    have g3 := grown_trans g2 g3
    go_wp2_with fail
    refine (N1.out _).mono ?_
    rintro e w4 ⟨rfl, hb4⟩
    have h4 := h3.below hb4 h3.lt
    have g4 := grown_via g3 hb4
    go_wp2_with fail
    refine (I1.out _ h4).mono ?_
    rintro e w5 ⟨rfl, hb5⟩
    have h5 := h4.below hb5 h4.lt
    have g5 := grown_via g4 hb5
    go_wp2_with fail
    refine (T3.out _ h5).mono ?_
    rintro e w6 ⟨rfl, h6, g6⟩
    have g6 := grown_trans g5 g6
    go_wp2_with fail
    refine (T4.out _ h6).mono ?_
    rintro e w7 ⟨rfl, h7, g7⟩
    have g7 := grown_trans g6 g7
    go_wp2_with fail
    refine (N2.out _).mono ?_
    rintro e w8 ⟨rfl, hb8⟩
    have h8 := h7.below hb8 h7.lt
    have g8 := grown_via g7 hb8
    go_wp2_with fail
    refine (T5.out d Od.out _ h8).mono ?_
    rintro e w9 ⟨rfl, h9, g9⟩
    have g9 := grown_trans g8 g9
    go_wp2_with fail
    go_ret2
    exact ⟨rfl, h9, g9⟩
end Go.Proofs.YtmlloonbommkhaaGreatDoor
end
section
set_option linter.all false
namespace Go.Proofs.YtmlloonbommkhaaGreatDoor
open Go.RowKit
set_option maxRecDepth 100000 in
set_option maxHeartbeats 4000000 in
theorem refWord_calls (k : Int) (h : 1 ≤ k ∧ k ≤ 14) (w : World) : Calls Tryz.prog 50 #[.int .i64 k] w fun e w' => e = .returned (.string (bs (wordK k))) ∧ w' = w := by
  obtain rfl | rfl | rfl | rfl | rfl | rfl | rfl | rfl | rfl | rfl | rfl | rfl | rfl | rfl : k = 1 ∨ k = 2 ∨ k = 3 ∨ k = 4 ∨ k = 5 ∨ k = 6 ∨ k = 7 ∨ k = 8 ∨ k = 9 ∨ k = 10 ∨ k = 11 ∨ k = 12 ∨ k = 13 ∨ k = 14 := by omega
  all_goals
    clear h
    go_enter Tryz.func50, Tryz.ntmps50
    go_wp2_with fail
    go_ret
    exact ⟨rfl, rfl⟩
set_option maxRecDepth 100000 in
set_option maxHeartbeats 4000000 in
theorem refArity_calls (k : Int) (h : 0 ≤ k ∧ k ≤ 14) (w : World) : Calls Tryz.prog 51 #[.int .i64 k] w fun e w' => e = .returned (.int .i64 (arity k)) ∧ w' = w := by
  obtain rfl | rfl | rfl | rfl | rfl | rfl | rfl | rfl | rfl | rfl | rfl | rfl | rfl | rfl | rfl : k = 0 ∨ k = 1 ∨ k = 2 ∨ k = 3 ∨ k = 4 ∨ k = 5 ∨ k = 6 ∨ k = 7 ∨ k = 8 ∨ k = 9 ∨ k = 10 ∨ k = 11 ∨ k = 12 ∨ k = 13 ∨ k = 14 := by omega
  all_goals
    clear h
    go_enter Tryz.func51, Tryz.ntmps51
    go_wp2_with fail
    go_ret
    exact ⟨rfl, rfl⟩
def kwF (l : List (List UInt8 × Int)) (t : List UInt8) : Int := ((l.find? (fun p => p.1 == t)).map (·.2)).getD 0
theorem tab_drop : ∀ j : Fin 14, wordTab.drop j.val = (wordK ((j.val : Int) + 1), ((j.val : Int) + 1)) :: wordTab.drop (j.val + 1) := by decide
theorem kwF_drop (t : List UInt8) (j : Nat) (h : j < 14) : kwF (wordTab.drop j) t = if (t == wordK ((j : Int) + 1)) = true then (j : Int) + 1 else kwF (wordTab.drop (j + 1)) t := by
  have e := tab_drop ⟨j, h⟩
  dsimp only at e
  rw [e]
  unfold kwF
  rw [List.find?_cons]
  dsimp only
  rw [Bool.beq_comm (a := t)]
  cases wordK ((j : Int) + 1) == t <;> rfl
set_option maxRecDepth 100000 in
set_option maxHeartbeats 4000000 in
theorem refKind_calls (t : List UInt8) (w : World) : Calls Tryz.prog 74 #[.string (bs t)] w fun e w' => e = .returned (.int .i64 (kindW t)) ∧ w' = w := by
  have HK := Lib.hid (fun k h W => refWord_calls k h W)
  obtain ⟨r, Hr⟩ : ∃ x, Hid (kindW t = x) := ⟨_, rfl⟩
  rw [Hr.out]
  have Hr : Hid (kwF (wordTab.drop 0) t = r) := Hr.out
  go_enter Tryz.func74, Tryz.ntmps74
  go_wp2_with fail
  go_loopg [3] 14 (fun gk s3 wr => ∃ j : Nat, j + gk = 14 ∧ s3 = .int .i64 (j + 1 : Nat) ∧ wr = w ∧ Hid (kwF (wordTab.drop j) t = r))
  case atStart => exact ⟨0, by omega, rfl, rfl, Hr⟩
  case round =>
    clear Hr
    obtain ⟨j, hj, rfl, rfl, Hj⟩ := hrel
    cases gk with
    | zero =>
      obtain rfl : j = 14 := by omega
      have Hv : Hid (r = 0) := Hj.out.symm
      go_wp2_with fail
      go_ret
      exact ⟨by rw [Hv.out] <;> rfl, rfl⟩
    | succ gk =>
      have hlt : j < 14 := by omega
      have Hn := Lib.hid (kwF_drop t j hlt)
      have hle : ((j : Int) + 1) ≤ 14 := by omega
      have hle1 : (1 : Int) ≤ (j : Int) + 1 := by omega
      go_wp2_with fail
      refine (HK.out _ ⟨hle1, hle⟩ _).mono ?_
      rintro e w1 ⟨rfl, rfl⟩
      cases hq : t == wordK ((j : Int) + 1)
      · have hq2 : ((bs (wordK ((j : Int) + 1))).toList == (bs t).toList) = false := (bs_beq _ _).trans ((Bool.beq_comm ..).trans hq)
        have Hv : Hid (kwF (wordTab.drop (j + 1)) t = r) := by show _ = _; rw [← Hj.out, Hn.out, hq]; rfl
        clear hq
        go_wp2_with fail
        go_roundg gk
        case measure => omega
        case rel => exact ⟨j + 1, by omega, by go_num, rfl, Hv⟩
      · have hq2 : ((bs (wordK ((j : Int) + 1))).toList == (bs t).toList) = true := (bs_beq _ _).trans ((Bool.beq_comm ..).trans hq)
        have Hv : Hid (r = (j : Int) + 1) := by show _ = _; rw [← Hj.out, Hn.out, hq]; rfl
        clear hq
        go_wp2_with fail
        go_ret
        exact ⟨by rw [Hv.out] <;> rfl, rfl⟩
end Go.Proofs.YtmlloonbommkhaaGreatDoor
end
section
set_option linter.all false
namespace Go.Proofs.YtmlloonbommkhaaGreatDoor
open Go.RowKit
abbrev words14 : List (List UInt8) := wordTab.map (·.1)
theorem words_take : ∀ j : Fin 14, words14.take (j.val + 1) = words14.take j.val ++ [wordK ((j.val : Int) + 1)] := by decide
set_option maxRecDepth 100000 in
set_option maxHeartbeats 4000000 in
theorem kinds_calls (w : World) : Calls Tryz.prog 75 #[] w fun e w' => ∃ v, e = .returned v ∧ w'.ownsRow w.heap.size 9 1 v words14.length (strC words14) ∧ Below w.heap.size w w' := by
  have HK := Lib.hid (fun k h W => refWord_calls k h W)
  obtain ⟨i0, hinf, hz0, hz1, hz2⟩ := info_parts infoString
  obtain ⟨WS, HWS⟩ : ∃ x, Hid (words14 = x) := ⟨_, rfl⟩
  rw [HWS.out]
  go_enter Tryz.func75, Tryz.ntmps75
  go_wp2_with fail
  go_loopg [1, 2] 14 (fun gk v s2 wr => ∃ (j : Nat) (ws : List (List UInt8)), j + gk = 14 ∧ s2 = .int .i64 (j + 1 : Nat) ∧ Hid (words14.take j = ws) ∧ ws.length = j ∧ wr.ownsRow w.heap.size 9 1 v ws.length (strC ws) ∧ Below w.heap.size w wr)
  case atStart => exact ⟨0, [], by omega, rfl, rfl, rfl, World.ownsRow_nil _ _ _ _, Below.refl _ _⟩
  case round =>
    obtain ⟨j, ws, hj, rfl, Hws, hwl, hrow, hW⟩ := hrel
    cases gk with
    | zero =>
      obtain rfl : j = 14 := by omega
      have Hv : Hid (WS = ws) := by show _ = _; rw [← HWS.out, ← Hws.out]; rfl
      clear hwl
      go_wp2_with fail
      go_ret
      exact ⟨_, rfl, by rw [Hv.out]; exact hrow, hW⟩
    | succ gk =>
      have hlt : j < 14 := by omega
      have hle : ((j : Int) + 1) ≤ 14 := by omega
      have hle1 : (1 : Int) ≤ (j : Int) + 1 := by omega
      obtain ⟨x, Hx⟩ : ∃ x, Hid (wordK ((j : Int) + 1) = x) := ⟨_, rfl⟩
      have Hn : Hid (words14.take (j + 1) = ws ++ [x]) := by show _ = _; rw [← Hws.out, ← Hx.out]; exact words_take ⟨j, hlt⟩
      have HK1 := Lib.hid (fun W => HK.out _ ⟨hle1, hle⟩ W)
      rw [Hx.out] at HK1
      obtain ⟨A, c, rfl⟩ := own_form hrow
      have hsz2 := hW.size
      have hwl2 : ws.length ≤ 13 := by omega
      have Hwl := Lib.hid hwl
      clear hwl
      go_wp2_with fail
      refine (HK1.out _).mono ?_
      rintro e w1 ⟨rfl, rfl⟩
      go_wp2_with (at_builtin; refine wpList_append_own _ rfl _ _ 97 rfl w.heap.size 9 i0 _ 1 16 Tryz.underlying97 hinf hz0 hz1 hz2 rfl (by decide) _ _ _ rfl (own_below hrow (below1 w1 (.cells #[.string (bs x)] 9)) (Nat.le_refl _)) ⟨w1.heap.size, 0, none⟩ 1 1 [.string (bs x)] rfl rfl (row_new _ _ _) (by simp [Value.oneCell']) (by unfold maxLen; omega) (by omega) (by simp; omega) ?_; intro v' w5 hown' hgrow _; obtain ⟨g', cap', rfl⟩ := ownsRow_succ hown'; have hW5 := (hW.alloc hsz2 (.cells #[.string (bs x)] 9)).grown hgrow (by simp; omega) (fun k e => own_row_lt hrow e))
      go_roundg gk
      case measure => omega
      case rel => exact ⟨j + 1, ws ++ [x], by omega, by go_num, Hn, by rw [List.length_append, Hwl.out]; rfl, by rw [strC_snoc, List.length_append]; exact hown', hW5⟩
end Go.Proofs.YtmlloonbommkhaaGreatDoor
end
section
set_option linter.all false
namespace Go.Proofs.YtmlloonbommkhaaGreatDoor
open Go.RowKit
theorem field_text (x y : Int) (s : ByteArray) (W : World) : (Instr.field 34 (.agg #[.int .i64 x, .int .i64 y, .string s]) 2).run Tryz.prog W = .ok (.string s) W := by
  kernel_rfl
structure RG (w wx : World) (F : Nat) (l : List UInt8) (f : Fm) (k : Int) (wv : Value) (ws : List Int) (b i : Int) : Prop where
  fm : FmAt wx F l f
  res : Blk wx w.heap.size 55 #[.int .i64 0, .slice none 0 0, .int .i64 0, .int .i64 0]
  g : Blk wx (w.heap.size + 1) 55 #[.int .i64 k, wv, .int .i64 b, .int .i64 i]
  row : wx.ownsRow w.heap.size 3 1 wv ws.length (ws.map (Value.int .i64))
  gr : w.grownBy wx (some F)
theorem RG.below {w wx wy : World} {F : Nat} {l : List UInt8} {f : Fm} {k : Int} {wv : Value} {ws : List Int} {b i : Int} (h : RG w wx F l f k wv ws b i) (hb : Below wx.heap.size wx wy) : RG w wy F l f k wv ws b i :=
  ⟨h.fm.below hb h.fm.lt, h.res.below hb h.res.lt, h.g.below hb h.g.lt, own_below h.row hb (Nat.le_refl _), grown_via h.gr hb⟩
theorem RG.took {w wx wy : World} {F : Nat} {l : List UInt8} {f f2 : Fm} {k : Int} {wv : Value} {ws : List Int} {b i : Int} (h : RG w wx F l f k wv ws b i) (hF : F < w.heap.size) (h2 : FmAt wy F l f2) (hg : wx.grownBy wy (some F)) : RG w wy F l f2 k wv ws b i :=
  ⟨h2, h.res.grown hg (fun e => by injection e; omega), h.g.grown hg (fun e => by injection e; omega), h.row.kept hg (.inr (own_blk_ne h.row h.fm (by decide))), grown_trans h.gr hg⟩
theorem self_grown (x : World) (b : Nat) : x.grownBy x (some b) := ⟨rfl, rfl, rfl, Nat.le_refl _, fun _ _ _ => rfl⟩
theorem RG.set_i {w wx : World} {F : Nat} {l : List UInt8} {f : Fm} {k : Int} {wv : Value} {ws : List Int} {b i : Int} (h : RG w wx F l f k wv ws b i) (hF : F < w.heap.size) (i' : Int) : RG w (wx.setCell ⟨w.heap.size + 1, 3, none⟩ (.int .i64 i')) F l f k wv ws b i' :=
  ⟨h.fm.far (by show F ≠ w.heap.size + 1; omega) _, h.res.far (by show w.heap.size ≠ w.heap.size + 1; omega) _, h.g.set_ 3 _, h.row.kept (grown_set (self_grown _ _) 3 _) (.inr (own_blk_ne h.row h.g (by decide))), grown_out h.gr (grown_set (self_grown _ _) 3 _) (by omega)⟩
theorem RG.set_k {w wx : World} {F : Nat} {l : List UInt8} {f : Fm} {k : Int} {wv : Value} {ws : List Int} {b i : Int} (h : RG w wx F l f k wv ws b i) (hF : F < w.heap.size) (k' : Int) : RG w (wx.setCell ⟨w.heap.size + 1, 0, none⟩ (.int .i64 k')) F l f k' wv ws b i :=
  ⟨h.fm.far (by show F ≠ w.heap.size + 1; omega) _, h.res.far (by show w.heap.size ≠ w.heap.size + 1; omega) _, h.g.set_ 0 _, h.row.kept (grown_set (self_grown _ _) 0 _) (.inr (own_blk_ne h.row h.g (by decide))), grown_out h.gr (grown_set (self_grown _ _) 0 _) (by omega)⟩
theorem RG.set_b {w wx : World} {F : Nat} {l : List UInt8} {f : Fm} {k : Int} {wv : Value} {ws : List Int} {b i : Int} (h : RG w wx F l f k wv ws b i) (hF : F < w.heap.size) (b' : Int) : RG w (wx.setCell ⟨w.heap.size + 1, 2, none⟩ (.int .i64 b')) F l f k wv ws b' i :=
  ⟨h.fm.far (by show F ≠ w.heap.size + 1; omega) _, h.res.far (by show w.heap.size ≠ w.heap.size + 1; omega) _, h.g.set_ 2 _, h.row.kept (grown_set (self_grown _ _) 2 _) (.inr (own_blk_ne h.row h.g (by decide))), grown_out h.gr (grown_set (self_grown _ _) 2 _) (by omega)⟩
theorem RG.set_w {w wx w7 : World} {F : Nat} {l : List UInt8} {f : Fm} {k : Int} {wv v' : Value} {ws : List Int} {b i m : Int} {row : Option Nat} (h : RG w wx F l f k wv ws b i) (hF : F < w.heap.size)
    (hown : w7.ownsRow w.heap.size 3 1 v' (ws.length + 1) (ws.map (Value.int .i64) ++ [.int .i64 m])) (hg : wx.grownBy w7 row) (hrr : ∀ g, row = some g → w.heap.size ≤ g ∧ ∃ cur, Blk wx g 3 cur) :
    RG w (w7.setCell ⟨w.heap.size + 1, 1, none⟩ v') F l f k v' (ws ++ [m]) b i := by
  obtain ⟨h1, h2, h3, h4, h5⟩ := h
  have ne_ : ∀ {g : Nat} {t : TypeId} {cs : Array Value}, Blk wx g t cs → t ≠ 3 → row ≠ some g := fun hb ht e => by
    obtain ⟨_, cur, hc⟩ := hrr _ e
    exact hc.ne_ hb (Ne.symm ht) rfl
  have hs : w7.grownBy (w7.setCell ⟨w.heap.size + 1, 1, none⟩ v') (some (w.heap.size + 1)) := grown_set (self_grown _ _) 1 v'
  have k1 : FmAt w7 F l f := Blk.grown h1 hg (fun e => ne_ h1 (by decide) e.symm)
  have k2 := h2.grown hg (fun e => ne_ h2 (by decide) e.symm)
  have k3 := h3.grown hg (fun e => ne_ h3 (by decide) e.symm)
  refine ⟨k1.far (by show F ≠ w.heap.size + 1; omega) _, k2.far (by show w.heap.size ≠ w.heap.size + 1; omega) _, k3.set_ 1 v', ?_, ?_⟩
  · rw [List.length_append, List.map_append]
    exact hown.kept hs (.inr (own_blk_ne hown k3 (by decide)))
  · have g7 : w.grownBy w7 (some F) := ⟨hg.os.trans h5.os, hg.tape.trans h5.tape, hg.output.trans h5.output, Nat.le_trans h5.size hg.size, fun j hj hjr => (hg.block j (Nat.lt_of_lt_of_le hj h5.size) (fun e => by have := (hrr j e.symm).1; omega)).trans (h5.block j hj hjr)⟩
    exact grown_out g7 hs (by omega)
theorem gateR_eq (l : List UInt8) {f a b cf df : Fm} {ifn k bit : Int} {n : Nat} {ws : List Int} (ha : ifR l f = (ifn, a)) (hb : tk l 1 words14 a = b) (hk : kindW a.r.text = k) (hn : arity k = n) (hw : wiresR l n b = (ws, cf))
    (hd : (if k = 13 then (numR cf.r.text, tk l 2 [] cf) else (0, cf)) = (bit, df)) : gateR l f = (⟨k, ws, bit, ifn⟩, df, tk l 59 [] df) := by
  subst hb hk
  simp only [gateR, ha, hn, Int.toNat_natCast, hw, hd]
theorem gt_six {w : World} {R B : Nat} {a b c d x y z : Value} (h : Blk w R 55 #[a, b, c, d]) (h' : Blk w B 34 #[x, y, z]) :
    w.cell? ⟨R, 0, none⟩ = some a ∧ w.cell? ⟨R, 1, none⟩ = some b ∧ w.cell? ⟨R, 2, none⟩ = some c ∧ w.cell? ⟨R, 3, none⟩ = some d ∧ w.cell? ⟨B, 0, none⟩ = some x ∧ w.cell? ⟨B, 2, none⟩ = some z := ⟨h.cell 0, h.cell 1, h.cell 2, h.cell 3, h'.cell 0, h'.cell 2⟩
theorem grown_put4d (w : World) (b : Nat) (v0 v1 v2 v3 : Value) : w.grownBy ((((w.setCell ⟨b, 0, none⟩ v0).setCell ⟨b, 1, none⟩ v1).setCell ⟨b, 2, none⟩ v2).setCell ⟨b, 3, none⟩ v3).drew (some b) :=
  grown_via (grown_put4 w b v0 v1 v2 v3) ((Below.refl _ _).drew)
theorem kindW_range (t : List UInt8) : 0 ≤ kindW t ∧ kindW t ≤ 14 := by
  unfold kindW
  cases hf : wordTab.find? (fun p => p.1 == t) with
  | none => simp
  | some p =>
    have h : ∀ p ∈ wordTab, 0 ≤ p.2 ∧ p.2 ≤ 14 := by decide
    exact h p (List.mem_of_find?_eq_some hf)
theorem arity_range (k : Int) : 0 ≤ arity k ∧ arity k ≤ 3 := by
  unfold arity
  repeat' split
  all_goals omega
theorem ifR_eq (l : List UInt8) (f c d : Fm) (hc : tk l 1 [] f = c) (hd : tk l 2 [] c = d) : ifR l f = if isR [105, 102] f then (numR c.r.text + 1, tk l 58 [] d) else (0, f) := by
  subst hc hd; rfl
set_option maxRecDepth 100000 in
set_option maxHeartbeats 8000000 in
theorem refGate_calls (F : Nat) (l : List UInt8) (hl : l.length ≤ 1000000) (f : Fm) (hok : OkT l f.r) (w : World) (h : FmAt w F l f) :
    Calls Tryz.prog 42 #[.pointer (some ⟨F, 0, none⟩)] w fun e w' => ∃ wv, e = .returned (.tuple #[.agg #[.int .i64 (gateR l f).1.kind, wv, .int .i64 (gateR l f).1.bit, .int .i64 (gateR l f).1.ifn], .int .i64 f.r.at_, .int .i64 ((gateR l f).2.1.r.at_ + (gateR l f).2.1.r.text.length : Nat)]) ∧ w'.ownsRow w.heap.size 3 1 wv (gateR l f).1.wires.length ((gateR l f).1.wires.map (Value.int .i64)) ∧ FmAt w' F l (gateR l f).2.2 ∧ w.grownBy w' (some F) := by
  obtain ⟨G, HGR⟩ : ∃ x, Hid (gateR l f = x) := ⟨_, rfl⟩
  rw [HGR.out]
  obtain ⟨c, Hc⟩ : ∃ x, Hid (tk l 1 [] f = x) := ⟨_, rfl⟩
  obtain ⟨d, Hd⟩ : ∃ x, Hid (tk l 2 [] c = x) := ⟨_, rfl⟩
  have He := Lib.hid (ifR_eq l f c d Hc.out Hd.out)
  have oc : OkT l c.r := by rw [← Hc.out]; exact okT_tk hok _ _
  have od : OkT l d.r := by rw [← Hd.out]; exact okT_tk oc _ _
  obtain ⟨⟨ifn, a⟩, Ha⟩ : ∃ x, Hid (ifR l f = x) := ⟨_, rfl⟩
  have Oa : Hid (OkT l a.r) := by
    show OkT l a.r
    have e := He.out
    rw [Ha.out] at e
    by_cases hb : isR [105, 102] f = true
    · rw [if_pos hb] at e
      obtain ⟨_, rfl⟩ := Prod.mk.inj e
      exact okT_tk od _ _
    · rw [if_neg hb] at e
      obtain ⟨_, rfl⟩ := Prod.mk.inj e
      exact hok
  have hnc := numV_fits c.r.text (by have := oc.2; omega)
  have T1 := Lib.hid (fun W h => tk_calls F l hl f hok 1 1 rfl (by decide) W h)
  have T2 := Lib.hid (fun W h => tk_calls F l hl c oc 2 2 rfl (by decide) W h)
  have T3 := Lib.hid (fun W h => tk_calls F l hl d od 58 58 rfl (by decide) W h)
  have T5 := Lib.hid (fun (g : Fm) (og : OkT l g.r) W h => tk_calls F l hl g og 59 59 rfl (by decide) W h)
  have N1 := Lib.hid (fun W => num_calls c.r oc.2 W)
  have I1 := Lib.hid (fun W h => refIs_calls F l f [105, 102] W h)
  have HKS := Lib.hid (fun W => kinds_calls W)
  rw [Hc.out] at T1
  rw [Hd.out] at T2
  unfold tokV at T1 T2 T3 T5 N1
  obtain ⟨nc, Hnc⟩ : ∃ x : Nat, Hid (numV c.r.text = x) := ⟨_, rfl⟩
  unfold numR at N1 He
  rw [Hnc.out] at N1 He hnc
  clear hok oc od Hc Hd
  have hF := h.lt
  have h0 : RG w ((w.alloc (.cells #[.int .i64 0, .slice none 0 0, .int .i64 0, .int .i64 0] 55)).alloc (.cells #[.int .i64 0, .slice none 0 0, .int .i64 0, .int .i64 0] 55)) F l f 0 (.slice none 0 0) [] 0 0 :=
    ⟨(Blk.alloc h _).alloc _, (Blk.new w _ _).alloc _, Blk.at_ _ _ _ (by simp), World.ownsRow_nil _ _ _ _, grown_below (below2 _ _ _) _⟩
  obtain ⟨x0, x1, x2, x3, x4, x5, x6, x7, x8, x9, xf⟩ := Blk.cells10 ((Blk.alloc h (.cells #[.int .i64 0, .slice none 0 0, .int .i64 0, .int .i64 0] 55)))
  clear h
  go_enter Tryz.func42, Tryz.ntmps42
  go_upto_region 3 with fail
  clear x0 x1 x2 x3 x4 x5 x6 x7 x8 x9 xf
  go_wp2_with fail
  refine (I1.out _ h0.fm).mono ?_
  rintro e w1 ⟨rfl, hb1⟩
  have h1 := h0.below hb1
  clear h0 hb1
  go_upto_if 17 with fail
  go_cut [] (fun wx => RG w wx F l a 0 (.slice none 0 0) [] 0 ifn)
  case first =>
    cases hb : isR [105, 102] f
    · have Hv : Hid (ifn = 0 ∧ a = f) := by
        show _ ∧ _
        have e := He.out
        rw [Ha.out, if_neg (by rw [hb]; decide)] at e
        exact Prod.mk.inj e
      clear hb
      go_wp2_with fail
      go_meet
      obtain ⟨e1, e2⟩ := Hv.out
      subst e1 e2
      exact h1
    · have Hv : Hid (ifn = (nc : Int) + 1 ∧ a = tk l 58 [] d) := by
        show _ ∧ _
        have e := He.out
        rw [Ha.out, if_pos hb] at e
        exact Prod.mk.inj e
      clear hb
      go_wp2_with fail
      refine (T1.out _ h1.fm).mono ?_
      rintro e w2 ⟨rfl, h2, g2⟩
      have h2 := h1.took hF h2 g2
      clear h1 g2
      go_wp2_with fail
      refine (T2.out _ h2.fm).mono ?_
      rintro e w3 ⟨rfl, h3, g3⟩
      have h3 := h2.took hF h3 g3
      clear h2 g3
      go_wp2_with fail
      refine (N1.out _).mono ?_
      rintro e w4 ⟨rfl, hb4⟩
      have h4 := h3.below hb4
      clear h3 hb4
      obtain ⟨y0, y1, y2, y3, yf⟩ := h4.g.cells4
      go_wp2_with fail
      clear y0 y1 y2 y3 yf
      have h5 := h4.set_i hF ((nc : Int) + 1)
      refine (T3.out _ h5.fm).mono ?_
      rintro e w6 ⟨rfl, h6, g6⟩
      have h6 := h5.took hF h6 g6
      go_wp2_with fail
      go_meet
      obtain ⟨e1, e2⟩ := Hv.out
      subst e1 e2
      exact h6
  case rest =>
    have h1 := hcut
    clear hcut
    obtain ⟨b, Hb⟩ : ∃ x, Hid (tk l 1 words14 a = x) := ⟨_, rfl⟩
    have Ob : Hid (OkT l b.r) := by show OkT l b.r; rw [← Hb.out]; exact okT_tk Oa.out _ _
    have T7 := Lib.hid (fun n0 v W h hrow => takes_calls F l hl a Oa.out.1 1 words14 (by decide) n0 v W h hrow (by decide))
    change Hid (∀ n0 v W h hrow, Calls _ _ _ _ fun e w' => e = _ ∧ FmAt w' F l (tk l 1 words14 a) ∧ _) at T7
    rw [Hb.out] at T7
    obtain ⟨k, Hk⟩ : ∃ x, Hid (kindW a.r.text = x) := ⟨_, rfl⟩
    have K7 := Lib.hid (fun W => refKind_calls a.r.text W)
    rw [Hk.out] at K7
    go_wp2_with fail
    have hfld := fun W => field_text (a.r.at_ : Int) (a.r.kind : Int) (bs a.r.text) W
    refine (HKS.out _).mono ?_
    rintro e w2 ⟨v, rfl, hrv, hb2⟩
    have h2 := h1.below hb2
    clear h1 hb2
    go_wp2_with fail
    refine (T7.out _ _ _ h2.fm hrv).mono ?_
    rintro e w3 ⟨rfl, h3, g3⟩
    have h3 := h2.took hF h3 g3
    clear h2 hrv g3
    go_wp2_with fail
    refine (K7.out _).mono ?_
    rintro e w4 ⟨rfl, rfl⟩
    obtain ⟨y0, y1, y2, y3, yf⟩ := h3.g.cells4
    go_upto_block 0 with fail
    have h5 := h3.set_k hF k
    clear y0 y1 y2 y3 yf
    have hkr := kindW_range a.r.text
    rw [Hk.out] at hkr
    obtain ⟨n, Hn⟩ : ∃ n : Nat, Hid (arity k = n) := ⟨(arity k).toNat, (Int.toNat_of_nonneg (arity_range k).1).symm⟩
    have hn3 : n ≤ 3 := by have := (arity_range k).2; rw [Hn.out] at this; omega
    have HA := Lib.hid (fun W => refArity_calls k hkr W)
    rw [Hn.out] at HA
    obtain ⟨⟨ws, cf⟩, Hw⟩ : ∃ x, Hid (wiresR l n b = x) := ⟨_, rfl⟩
    obtain ⟨i0, hinf, hz0, hz1, hz2⟩ := info_parts infoInt
    go_cut [7] from 33 to 47 (fun _ wx => ∃ wv, RG w wx F l cf k wv ws 0 ifn ∧ OkT l cf.r)
    case first =>
      go_wp2_with fail
      go_loopg [7] n (fun gk s7 wr => ∃ (j : Nat) (pre : List Int) (fj : Fm) (wv : Value), j + gk = n ∧ s7 = .int .i64 j ∧ pre.length = j ∧ wiresR l n b = (pre ++ (wiresR l gk fj).1, (wiresR l gk fj).2) ∧ OkT l fj.r ∧ RG w wr F l fj k wv pre 0 ifn)
      case atStart => exact ⟨0, [], b, .slice none 0 0, by omega, rfl, rfl, rfl, Ob.out, h5⟩
      case round =>
        clear h5
        obtain ⟨j, pre, fj, wv, hj, rfl, hpl, hw, hoj, h⟩ := hrel
        obtain rfl : j = pre.length := hpl.symm
        clear hpl
        have Hwj := Lib.hid hw
        clear hw
        obtain ⟨y0, y1, y2, y3, yf⟩ := h.g.cells4
        cases gk with
        | zero =>
          obtain ⟨e1, e2⟩ : Hid (ws = pre) ∧ Hid (cf = fj) := by
            have e := Hw.out.symm.trans Hwj.out
            obtain ⟨e1, e2⟩ := Prod.mk.inj e
            exact ⟨by show _ = _; rw [e1]; simp [wiresR], e2⟩
          have hjn : pre.length = n := by omega
          go_wp2_with fail
          refine (HA.out _).mono ?_
          rintro e w6 ⟨rfl, rfl⟩
          go_wp2_with fail
          go_meet
          exact ⟨_, by rw [e1.out, e2.out]; exact h, by rw [e2.out]; exact hoj⟩
        | succ gk =>
          have hlt : (pre.length : Int) < (n : Int) := by omega
          go_wp2_with fail
          obtain ⟨f2, Hf2⟩ : ∃ x, Hid (tk l 2 [] fj = x) := ⟨_, rfl⟩
          obtain ⟨m, Hm⟩ : ∃ x : Nat, Hid (numV fj.r.text = x) := ⟨_, rfl⟩
          have Oj2 : Hid (OkT l f2.r) := by show OkT l f2.r; rw [← Hf2.out]; exact okT_tk hoj _ _
          have T := Lib.hid (fun W h => tk_calls F l hl fj hoj 2 2 rfl (by decide) W h)
          have N := Lib.hid (fun W => num_calls fj.r hoj.2 W)
          rw [Hf2.out] at T
          unfold numR at N
          rw [Hm.out] at N
          unfold tokV at T N
          have Hw2 : Hid (wiresR l n b = ((pre ++ [(m : Int)]) ++ (wiresR l gk f2).1, (wiresR l gk f2).2)) := by
            show _ = _
            rw [Hwj.out, wiresR, Hf2.out, show numR fj.r.text = (m : Int) by rw [← Hm.out]]
            simp
          clear hoj
          obtain ⟨A, cc, rfl⟩ := own_form h.row
          refine (HA.out _).mono ?_
          rintro e w6 ⟨rfl, rfl⟩
          have h4 := h.below ((Below.refl _ _).drew)
          go_wp2_with fail
          clear y0 y1 y2 y3 yf h
          obtain ⟨y0, y1, y2, y3, yf⟩ := h4.g.cells4
          have hml : pre.length + 1 ≤ maxLen := by unfold maxLen; omega
          go_region_law (first
            | (go_simp; go_at_call 71; (with_reducible refine (T.out _ h4.fm).mono ?_); rintro e w5 ⟨rfl, h5, g5⟩; have h5 := h4.took hF h5 g5; clear y0 y1 y2 y3 yf; obtain ⟨y0, y1, y2, y3, yf⟩ := h5.g.cells4)
            | (go_simp; go_at_call 72; (with_reducible refine (N.out _).mono ?_); rintro e w7 ⟨rfl, hb7⟩; have h7 := h5.below hb7; clear y0 y1 y2 y3 yf; obtain ⟨y0, y1, y2, y3, yf⟩ := h7.g.cells4; have hgl : w.heap.size + 1 < w7.heap.size := h7.g.lt; have y1b : (w7.alloc (.cells #[.int .i64 m] 3)).cell? ⟨w.heap.size + 1, 1, none⟩ = some (.slice A pre.length cc) := (World.cell?_alloc_lt _ _ _ hgl).trans y1)
            | (refine step_append_one rfl _ _ 53 rfl w.heap.size 3 i0 _ 1 8 Tryz.underlying53 hinf hz0 hz1 hz2 rfl (by decide) (.slice A pre.length cc) pre.length (pre.map (Value.int .i64)) rfl (h7.row.alloc _) ⟨w7.heap.size, 0, none⟩ 1 1 [.int .i64 m] rfl rfl (row_new _ _ _) (by simp [Value.oneCell']) hml (by omega) (by have := h7.gr.size; simp; omega) ?_; intro v' w8 row hown' hgrow hrr; obtain ⟨g', cap', rfl⟩ := ownsRow_succ hown'; have hrr2 : ∀ g, row = some g → w.heap.size ≤ g ∧ ∃ cur, Blk (w7.alloc (.cells #[.int .i64 m] 3)) g 3 cur := (fun g e => by rcases hrr with h | ⟨g2, cap2, cur2, h2, hv2, _, hb2, _⟩; (rw [h] at e; cases e); (rw [h2] at e; injection e with e; subst e; exact ⟨(h7.row.lt g2 (by rw [hv2]; rfl)).1, cur2, hb2⟩)); have h7a := h7.below (below1 w7 (.cells #[.int .i64 m] 3)); have hgB := h7a.g.grown hgrow (fun e => by obtain ⟨_, cur, hb⟩ := hrr2 _ e.symm; exact hb.ne_ h7a.g (by decide) rfl); clear y0 y1 y2 y3 yf y1b; obtain ⟨y0, y1, y2, y3, yf⟩ := hgB.cells4))
          all_goals
            have H9 := Lib.hid (h7a.set_w hF hown' hgrow hrr2)
            have Hpl2 : Hid ((pre ++ [(m : Int)]).length = pre.length + 1) := by show _ = _; simp
            clear h4 h5 h7 h7a hgB hown' hgrow hrr hrr2 g5 hb7 T N y0 y1 y2 y3 yf
            go_wp2_with fail
            go_roundg gk
            case measure => omega
            case rel => exact ⟨pre.length + 1, pre ++ [(m : Int)], f2, _, by omega, by go_num, Hpl2.out, Hw2.out, Oj2.out, H9.out⟩
    case rest =>
      clear h5
      obtain ⟨wv, h5, ok5⟩ := hcut
      obtain ⟨⟨bit, df⟩, Hdd⟩ : ∃ x, Hid ((if k = 13 then (numR cf.r.text, tk l 2 [] cf) else (0, cf)) = x) := ⟨_, rfl⟩
      have HG2 : Hid (G = (⟨k, ws, bit, ifn⟩, df, tk l 59 [] df)) := by
        show _ = _
        rw [← HGR.out]
        exact gateR_eq l Ha.out Hb.out Hk.out Hn.out Hw.out Hdd.out
      obtain ⟨A, cc, rfl⟩ := own_form h5.row
      clear HGR Ha Hb Hk Hn Hw HA hkr hn3 Hnc hnc He N1 I1 HKS T1 T2 T3 T7 K7 hfld
      obtain ⟨y0, y1, y2, y3, yf⟩ := h5.g.cells4
      go_upto_if 50 with fail
      clear y0 y1 y2 y3 yf
      go_cut [] (fun wx => RG w wx F l df k (.slice A ws.length cc) ws bit ifn ∧ OkT l df.r)
      case first =>
        by_cases hk : k = 13
        · have Hb : Hid (bit = numR cf.r.text ∧ df = tk l 2 [] cf) := by
            show _ ∧ _
            have e := Hdd.out
            rw [if_pos hk] at e
            obtain ⟨e1, e2⟩ := Prod.mk.inj e
            exact ⟨e1.symm, e2.symm⟩
          subst hk
          obtain ⟨f2, Hf2⟩ : ∃ x, Hid (tk l 2 [] cf = x) := ⟨_, rfl⟩
          obtain ⟨m, Hm⟩ : ∃ x : Nat, Hid (numV cf.r.text = x) := ⟨_, rfl⟩
          have Oj2 : Hid (OkT l f2.r) := by show OkT l f2.r; rw [← Hf2.out]; exact okT_tk ok5 _ _
          have T := Lib.hid (fun W h => tk_calls F l hl cf ok5 2 2 rfl (by decide) W h)
          have N := Lib.hid (fun W => num_calls cf.r ok5.2 W)
          rw [Hf2.out] at T
          unfold numR at N
          rw [Hm.out] at N
          unfold tokV at T N
          go_wp2_with fail
          refine (T.out _ h5.fm).mono ?_
          rintro e w6 ⟨rfl, h6, g6⟩
          have h6 := h5.took hF h6 g6
          clear g6
          go_wp2_with fail
          refine (N.out _).mono ?_
          rintro e w7 ⟨rfl, hb7⟩
          have h7 := h6.below hb7
          clear hb7
          obtain ⟨y0, y1, y2, y3, yf⟩ := h7.g.cells4
          have H8 := Lib.hid (h7.set_b hF (m : Int))
          go_wp2_with fail
          go_meet
          obtain ⟨e1, e2⟩ := Hb.out
          have e3 : bit = (m : Int) := by rw [e1, ← Hm.out]
          have e4 : df = f2 := e2.trans Hf2.out
          subst e3 e4
          exact ⟨H8.out, Oj2.out⟩
        · have Hb : Hid (bit = 0 ∧ df = cf) := by
            show _ ∧ _
            have e := Hdd.out
            rw [if_neg hk] at e
            obtain ⟨e1, e2⟩ := Prod.mk.inj e
            exact ⟨e1.symm, e2.symm⟩
          go_wp2_with fail
          go_meet
          obtain ⟨e1, e2⟩ := Hb.out
          subst e1 e2
          exact ⟨h5, ok5⟩
      case rest =>
        clear h5 ok5 Hdd
        obtain ⟨h5, ok5⟩ := hcut
        have hsum := ok5.1
        unfold OkR at hsum
        obtain ⟨ef, Hef⟩ : ∃ x, Hid (tk l 59 [] df = x) := ⟨_, rfl⟩
        have T := Lib.hid (fun W h => T5.out df ok5 W h)
        rw [Hef.out] at T HG2
        clear T5 ok5
        go_wp2_with fail
        refine (T.out _ h5.fm).mono ?_
        rintro e w6 ⟨rfl, h6, g6⟩
        have h6 := h5.took hF h6 g6
        clear g6 h5 T
        have h7 := h6.below (below1 w6 (.cells #[.int .i64 df.r.at_, .int .i64 df.r.kind, .string (bs df.r.text)] 34))
        have b8 := Blk.new w6 34 #[.int .i64 df.r.at_, .int .i64 df.r.kind, .string (bs df.r.text)]
        have hgs : w.heap.size + 1 < w6.heap.size := h6.g.lt
        go_upto_region 15 with fail
        generalize w6.alloc (.cells #[.int .i64 df.r.at_, .int .i64 df.r.kind, .string (bs df.r.text)] 34) = wa at *
        have hgb := h7.g
        have hrs := h7.res
        have hne1 : w.heap.size + 1 ≠ w.heap.size := by omega
        have hne2 : w6.heap.size ≠ w.heap.size := by omega
        have z0 := h7.res.cell 0
        have z1 := h7.res.cell 1
        have z2 := h7.res.cell 2
        have z3 := h7.res.cell 3
        have zf := h7.res.frozen
        simp at z0 z1 z2 z3
        have hsz : (bs df.r.text).size = df.r.text.length := bs_size _
        have hs0 : (0 : Int) ≤ (df.r.at_ : Int) + (df.r.text.length : Int) := by omega
        have hs1 : (df.r.at_ : Int) + (df.r.text.length : Int) ≤ 1000000 := by omega
        have hws : IntKind.i64.wrap ((df.r.at_ : Int) + (df.r.text.length : Int)) = (df.r.at_ : Int) + (df.r.text.length : Int) := IntWalk.i64_in _ (by omega)
        have R7 := Lib.hid h7
        have hgp := grown_put4d wa w.heap.size (.int .i64 k) (.slice A ws.length cc) (.int .i64 bit) (.int .i64 ifn)
        clear h6 h7 hsum
        go_region_held3 (fun W => W.cell? ⟨w.heap.size + 1, 0, none⟩ = some (.int .i64 k) ∧ W.cell? ⟨w.heap.size + 1, 1, none⟩ = some (.slice A ws.length cc) ∧ W.cell? ⟨w.heap.size + 1, 2, none⟩ = some (.int .i64 bit) ∧ W.cell? ⟨w.heap.size + 1, 3, none⟩ = some (.int .i64 ifn) ∧ W.cell? ⟨w6.heap.size, 0, none⟩ = some (.int .i64 df.r.at_) ∧ W.cell? ⟨w6.heap.size, 2, none⟩ = some (.string (bs df.r.text)))
          ((with_reducible refine gt_six (y := .int .i64 df.r.kind) ?_ ?_) <;> (repeat (first | (with_reducible exact hgb) | (with_reducible exact b8) | ((with_reducible refine Blk.far' ?_ _ ?_); (focus ((try dsimp only); (first | exact hne1 | exact hne2)))) | (with_reducible refine Blk.drew ?_)))) (fail)
        rename_i hh9
        clear hh9
        go_wp2_with fail
        refine bodyPost_ret (v := .tuple #[.agg #[.int .i64 k, .slice A ws.length cc, .int .i64 bit, .int .i64 ifn], .int .i64 f.r.at_, .int .i64 ((df.r.at_ : Int) + (df.r.text.length : Int))]) (by simp [results, Tryz.results42, go_sem, z0, z1, z2, z3]) rfl ?_
        rw [HG2.out]
        have h7 := R7.out
        exact ⟨_, rfl, h7.row.kept hgp (.inr (own_blk_ne h7.row h7.res (by decide))), Blk.grown h7.fm hgp (fun e => by injection e; omega), grown_out h7.gr hgp (Nat.le_refl _)⟩
end Go.Proofs.YtmlloonbommkhaaGreatDoor
end
