import Derived.Test.YtepdnjjfhbjcjaaGreatDoorCPowers0
import Derived.Test.YtepdnjjfhbjcjaaGreatDoorCPowers2
import Derived.Test.YtepdnjjfhbjcjaaGreatDoorCPowers3
import Derived.Test.YtepdnjjfhbjcjaaGreatDoorCPowers4
import Derived.Test.YtepdnjjfhbjcjaaGreatDoorCPowers5
import Derived.Test.YtepdnjjfhbjcjaaGreatDoorCPowers6
set_option linter.all false
section
namespace Go.Proofs.YtepdnjjfhbjcjaaGreatDoorPR
open Go.RowKit Go.Proofs.YtepdnjjfhbjcjaaGreatDoor.Inj Go.Proofs.YtepdnjjfhbjcjaaGreatDoorW.PrintWords Go.Proofs.YtepdnjjfhbjcjaaGreatDoorW.PrintLast Go.Proofs.YtepdnjjfhbjcjaaGreatDoorW.PrintMore
attribute [local go_sem] max2_int min2_int max_two min_two max_three min_three max_four min_four
set_option linter.unusedVariables false
set_option linter.unusedSimpArgs false
mutual
def spoondriftref01_Power.j0 : Nat → Int → Bool → Int → Int → Int → Int → Int → Option (Int × Int × Int × Int × Int × Int)
  | 0, _, _, _, _, _, _, _ => none
  | k + 1, x1, x21, x460000, x460001, x460002, x460003, x460004 => if x21 = true then (some (0, 0, 0, 0, 0, 3)) else (spoondriftref01_Power.l0 k x1 0 0 x460000 x460001 x460002 x460003 x460004 1 0 0 0 0)
def spoondriftref01_Power.l0 : Nat → Int → Int → Int → Int → Int → Int → Int → Int → Int → Int → Int → Int → Int → Option (Int × Int × Int × Int × Int × Int)
  | 0, _, _, _, _, _, _, _, _, _, _, _, _, _ => none
  | k + 1, x1, x8, x9, x460000, x460001, x460002, x460003, x460004, x463000, x463001, x463002, x463003, x463004 => if x9 < x1 then (if x8 = 0 then ((spoondriftref01_Mul.f k x463000 x463001 x463002 x463003 x463004 x460000 x460001 x460002 x460003 x460004).bind fun bt463 => (spoondriftref01_Power.l0 k x1 bt463.2.2.2.2.2 (wrap64 (x9 + 1)) x460000 x460001 x460002 x460003 x460004 bt463.1 bt463.2.1 bt463.2.2.1 bt463.2.2.2.1 bt463.2.2.2.2.1)) else (some (x463000, x463001, x463002, x463003, x463004, x8))) else (some (x463000, x463001, x463002, x463003, x463004, x8))
end
def spoondriftref01_Power.f (k : Nat) (a0_0 : Int) (a0_1 : Int) (a0_2 : Int) (a0_3 : Int) (a0_4 : Int) (a1 : Int) : Option (Int × Int × Int × Int × Int × Int) := (spoondriftref01_Check.f k a0_0 a0_1 a0_2 a0_3 a0_4).bind fun t461 => (if t461 = 0 then (if a1 < 0 then (spoondriftref01_Power.j0 k a1 true a0_0 a0_1 a0_2 a0_3 a0_4) else (spoondriftref01_Power.j0 k a1 (decide (a1 > 64)) a0_0 a0_1 a0_2 a0_3 a0_4)) else (some (0, 0, 0, 0, 0, t461)))
theorem spoondriftref01_Power.mono_l : ∀ k, (∀ y0 y1 y2 y3 y4 y5 y6, LeO (spoondriftref01_Power.j0 k y0 y1 y2 y3 y4 y5 y6) (spoondriftref01_Power.j0 (k + 1) y0 y1 y2 y3 y4 y5 y6)) ∧ (∀ y0 y1 y2 y3 y4 y5 y6 y7 y8 y9 y10 y11 y12, LeO (spoondriftref01_Power.l0 k y0 y1 y2 y3 y4 y5 y6 y7 y8 y9 y10 y11 y12) (spoondriftref01_Power.l0 (k + 1) y0 y1 y2 y3 y4 y5 y6 y7 y8 y9 y10 y11 y12))
  | 0 => ⟨fun _ _ _ _ _ _ _ r h => by simp [spoondriftref01_Power.j0] at h, fun _ _ _ _ _ _ _ _ _ _ _ _ _ r h => by simp [spoondriftref01_Power.l0] at h⟩
  | k + 1 => by
    obtain ⟨ih0, ih1⟩ := spoondriftref01_Power.mono_l k
    refine ⟨?_, ?_⟩
    · intro y0 y1 y2 y3 y4 y5 y6
      unfold spoondriftref01_Power.j0
      repeat' first
      | (with_reducible exact ih0 _ _ _ _ _ _ _)
      | (with_reducible exact ih1 _ _ _ _ _ _ _ _ _ _ _ _ _)
      | (with_reducible exact spoondriftref01_Check.mono _ _ _ _ _ _)
      | (with_reducible exact spoondriftref01_Mul.mono _ _ _ _ _ _ _ _ _ _ _)
      | (with_reducible exact LeO.refl _)
      | (with_reducible exact LeO.none _)
      | (with_reducible refine LeO.ite ?_ ?_)
      | (with_reducible refine LeO.bind ?_ (fun _ => ?_))
      | exact ih0 _ _ _ _ _ _ _
      | exact ih1 _ _ _ _ _ _ _ _ _ _ _ _ _
      | exact spoondriftref01_Check.mono _ _ _ _ _ _
      | exact spoondriftref01_Mul.mono _ _ _ _ _ _ _ _ _ _ _
      | exact LeO.none _
      | refine LeO.ite ?_ ?_
      | refine LeO.bind ?_ (fun _ => ?_)
    · intro y0 y1 y2 y3 y4 y5 y6 y7 y8 y9 y10 y11 y12
      unfold spoondriftref01_Power.l0
      repeat' first
      | (with_reducible exact ih0 _ _ _ _ _ _ _)
      | (with_reducible exact ih1 _ _ _ _ _ _ _ _ _ _ _ _ _)
      | (with_reducible exact spoondriftref01_Check.mono _ _ _ _ _ _)
      | (with_reducible exact spoondriftref01_Mul.mono _ _ _ _ _ _ _ _ _ _ _)
      | (with_reducible exact LeO.refl _)
      | (with_reducible exact LeO.none _)
      | (with_reducible refine LeO.ite ?_ ?_)
      | (with_reducible refine LeO.bind ?_ (fun _ => ?_))
      | exact ih0 _ _ _ _ _ _ _
      | exact ih1 _ _ _ _ _ _ _ _ _ _ _ _ _
      | exact spoondriftref01_Check.mono _ _ _ _ _ _
      | exact spoondriftref01_Mul.mono _ _ _ _ _ _ _ _ _ _ _
      | exact LeO.none _
      | refine LeO.ite ?_ ?_
      | refine LeO.bind ?_ (fun _ => ?_)
theorem spoondriftref01_Power.mono : ∀ a0 a1 a2 a3 a4 a5 k, LeO (spoondriftref01_Power.f k a0 a1 a2 a3 a4 a5) (spoondriftref01_Power.f (k + 1) a0 a1 a2 a3 a4 a5) := by
  intro a0 a1 a2 a3 a4 a5 k
  obtain ⟨ih0, ih1⟩ := spoondriftref01_Power.mono_l k
  unfold spoondriftref01_Power.f
  repeat' first
      | (with_reducible exact ih0 _ _ _ _ _ _ _)
      | (with_reducible exact ih1 _ _ _ _ _ _ _ _ _ _ _ _ _)
      | (with_reducible exact spoondriftref01_Check.mono _ _ _ _ _ _)
      | (with_reducible exact spoondriftref01_Mul.mono _ _ _ _ _ _ _ _ _ _ _)
      | (with_reducible exact LeO.refl _)
      | (with_reducible exact LeO.none _)
      | (with_reducible refine LeO.ite ?_ ?_)
      | (with_reducible refine LeO.bind ?_ (fun _ => ?_))
      | exact ih0 _ _ _ _ _ _ _
      | exact ih1 _ _ _ _ _ _ _ _ _ _ _ _ _
      | exact spoondriftref01_Check.mono _ _ _ _ _ _
      | exact spoondriftref01_Mul.mono _ _ _ _ _ _ _ _ _ _ _
      | exact LeO.none _
      | refine LeO.ite ?_ ?_
      | refine LeO.bind ?_ (fun _ => ?_)
set_option maxHeartbeats 8000000 in
set_option maxRecDepth 100000 in
theorem spoondriftref01_Power.calls (k : Nat) (a0_0 : Int) (a0_1 : Int) (a0_2 : Int) (a0_3 : Int) (a0_4 : Int) (a1 : Int) (r1 : Int) (r2 : Int) (r3 : Int) (r4 : Int) (r5 : Int) (r6 : Int) (w : World) (h : spoondriftref01_Power.f k a0_0 a0_1 a0_2 a0_3 a0_4 a1 = some (r1, r2, r3, r4, r5, r6)) :
    Calls Tryz.prog 7 #[.agg #[.int .i64 a0_0, .int .i64 a0_1, .int .i64 a0_2, .int .i64 a0_3, .int .i64 a0_4], .int .i64 a1] w fun e w' => e = .returned (.tuple #[.agg #[.int .i64 r1, .int .i64 r2, .int .i64 r3, .int .i64 r4, .int .i64 r5], .int .i64 r6]) ∧ Below w.heap.size w w' := by
  have hu23 := Tryz.underlying23
  have HB := Aside0.mk (Below.refl w.heap.size w)
  have H : ((spoondriftref01_Check.f k a0_0 a0_1 a0_2 a0_3 a0_4).bind fun t461 => (if t461 = 0 then (if a1 < 0 then (spoondriftref01_Power.j0 k a1 true a0_0 a0_1 a0_2 a0_3 a0_4) else (spoondriftref01_Power.j0 k a1 (decide (a1 > 64)) a0_0 a0_1 a0_2 a0_3 a0_4)) else (some (0, 0, 0, 0, 0, t461)))) = some (r1, r2, r3, r4, r5, r6) := h
  clear h
  replace H := Option.bind_eq_some_iff.mp H
  obtain ⟨t461, A30, H⟩ := H
  replace H : (if t461 = 0 then (if a1 < 0 then (spoondriftref01_Power.j0 k a1 true a0_0 a0_1 a0_2 a0_3 a0_4) else (spoondriftref01_Power.j0 k a1 (decide (a1 > 64)) a0_0 a0_1 a0_2 a0_3 a0_4)) else (some (0, 0, 0, 0, 0, t461))) = some (r1, r2, r3, r4, r5, r6) := H
  have A3 := Aside0.mk A30
  clear A30
  by_cases c4 : t461 = 0
  · rw [if_pos c4] at H
    have c4b0 : (t461 == 0) = true := beq_iff_eq.mpr c4
    have c4b1 : (t461 != 0) = false := bne_eq_false_iff_eq.mpr c4
    clear c4
    have HC5 := Aside0.mk H
    clear H
    go_enter Tryz.func7, Tryz.ntmps7
    go_upto_region 4 with (first | ((with_reducible refine gate_dst (N := 2) rfl ?_); refine box_event ?hg (N := 2) ?hd (cs := #[.int .i64 a0_0, .int .i64 a0_1, .int .i64 a0_2, .int .i64 a0_3, .int .i64 a0_4]) (t := 23) ?hr ?_; (case hd => rfl); (case hg => rfl); (case hr => first | (go_simp; done) | (go_simp; rfl)); intro gb459 hg w6 hbox hb; have n0_ := Aside0.mk (below_step (by repeat (first | (with_reducible first | exact HB.out | apply below_alloc | apply pw_below_drewN | apply below_drew1) | exact HB.out)) hb); have n1_ := Aside0.mk (hbox); have n2_ := Aside0.mk ((by rw [hg]; exact (below_size (by repeat (first | (with_reducible first | exact HB.out | apply below_alloc | apply pw_below_drewN | apply below_drew1) | exact HB.out))) : w.heap.size ≤ gb459)); have n3_ := Aside0.mk ((by rw [hg]; exact (below_size (by repeat (first | (with_reducible first | exact HB.out | apply below_alloc | apply pw_below_drewN | apply below_drew1) | exact HB.out))) : w.heap.size ≤ gb459)); clear HB; have HB := n0_; have BK459 := n1_; have GW459 := n2_; have GE459 := n3_; clear n0_ n1_ n2_ n3_; clear hb hbox hg) | ((with_reducible refine gate_dst (N := 4) rfl ?_); refine box_event ?hg (N := 4) ?hd (cs := #[.int .i64 0, .int .i64 0, .int .i64 0, .int .i64 0, .int .i64 0]) (t := 23) ?hr ?_; (case hd => rfl); (case hg => rfl); (case hr => first | (go_simp; done) | (go_simp; rfl)); intro gb460 hg w7 hbox hb; have n0_ := Aside0.mk (blk_below (g := gb459) (o := .cells #[.int .i64 a0_0, .int .i64 a0_1, .int .i64 a0_2, .int .i64 a0_3, .int .i64 a0_4] 23 (0, 0)) (by (with_reducible repeat (first | refine blk_drewN ?_ _ | refine blk_drew ?_ | refine blk_alloc ?_ _)); exact BK459.out) hb); have n1_ := Aside0.mk (below_step (by repeat (first | (with_reducible first | exact HB.out | apply below_alloc | apply pw_below_drewN | apply below_drew1 | refine below_set ?_ GE459.out) | exact HB.out)) hb); have n2_ := Aside0.mk (hbox); have n3_ := Aside0.mk ((by rw [hg]; exact (below_size (by repeat (first | (with_reducible first | exact HB.out | apply below_alloc | apply pw_below_drewN | apply below_drew1 | refine below_set ?_ GE459.out) | exact HB.out))) : w.heap.size ≤ gb460)); have n4_ := Aside0.mk ((by rw [hg]; exact (below_size (by repeat (first | (with_reducible first | exact HB.out | apply below_alloc | apply pw_below_drewN | apply below_drew1 | refine below_set ?_ GE459.out) | exact HB.out))) : w.heap.size ≤ gb460)); have n5_ := Aside0.mk ((by rw [hg]; exact Nat.ne_of_lt (blk_lt (g := gb459) (o := .cells #[.int .i64 a0_0, .int .i64 a0_1, .int .i64 a0_2, .int .i64 a0_3, .int .i64 a0_4] 23 (0, 0)) (by (with_reducible repeat (first | refine blk_drewN ?_ _ | refine blk_drew ?_ | refine blk_alloc ?_ _)); exact BK459.out)) : gb459 ≠ gb460)); have n6_ := Aside0.mk ((by rw [hg]; exact Nat.ne_of_gt (blk_lt (g := gb459) (o := .cells #[.int .i64 a0_0, .int .i64 a0_1, .int .i64 a0_2, .int .i64 a0_3, .int .i64 a0_4] 23 (0, 0)) (by (with_reducible repeat (first | refine blk_drewN ?_ _ | refine blk_drew ?_ | refine blk_alloc ?_ _)); exact BK459.out)) : gb460 ≠ gb459)); clear BK459; clear HB; have BK459 := n0_; have HB := n1_; have BK460 := n2_; have GW460 := n3_; have GE460 := n4_; have NB459_460 := n5_; have NB460_459 := n6_; clear n0_ n1_ n2_ n3_ n4_ n5_ n6_; clear hb hbox hg; have hnb8 := NB459_460.out; have hnc8 := NB460_459.out; have hcz9_0 : w7.cell? ⟨gb459, 0, none⟩ = some (.int .i64 a0_0) := (blk_cell BK459.out 0).trans rfl; have hcz9_1 : w7.cell? ⟨gb459, 1, none⟩ = some (.int .i64 a0_1) := (blk_cell BK459.out 1).trans rfl; have hcz9_2 : w7.cell? ⟨gb459, 2, none⟩ = some (.int .i64 a0_2) := (blk_cell BK459.out 2).trans rfl; have hcz9_3 : w7.cell? ⟨gb459, 3, none⟩ = some (.int .i64 a0_3) := (blk_cell BK459.out 3).trans rfl; have hcz9_4 : w7.cell? ⟨gb459, 4, none⟩ = some (.int .i64 a0_4) := (blk_cell BK459.out 4).trans rfl; have hfz9_0 := blk_frozen BK459.out 0; have hfz9_1 := blk_frozen BK459.out 1; have hfz9_2 := blk_frozen BK459.out 2; have hfz9_3 := blk_frozen BK459.out 3; have hfz9_4 := blk_frozen BK459.out 4) | ((with_reducible refine gate_callee (f := 27) rfl ?_); refine goesL_ (some 11) rfl rfl Tryz.func27 (by kernel_rfl) rfl #[.agg #[.int .i64 a0_0, .int .i64 a0_1, .int .i64 a0_2, .int .i64 a0_3, .int .i64 a0_4]] rfl (by (try simp only [List.map_toArray, List.map_cons, List.map_nil]); first | done | rfl | (simp only [List.length_drop, List.length_take]; rfl)) ?_; (with_reducible refine (spoondriftref01_Check.calls k a0_0 a0_1 a0_2 a0_3 a0_4 t461 _ A3.out).mono ?_); rintro e w10 ⟨rfl, hb⟩; refine ⟨_, rfl, ?_⟩; have n0_ := Aside0.mk (blk_below (g := gb459) (o := .cells #[.int .i64 a0_0, .int .i64 a0_1, .int .i64 a0_2, .int .i64 a0_3, .int .i64 a0_4] 23 (0, 0)) (by (with_reducible repeat (first | refine blk_drewN ?_ _ | refine blk_drew ?_ | refine blk_alloc ?_ _)); exact BK459.out) hb); have n1_ := Aside0.mk (blk_below (g := gb460) (o := .cells #[.int .i64 0, .int .i64 0, .int .i64 0, .int .i64 0, .int .i64 0] 23 (0, 0)) (by (with_reducible repeat (first | refine blk_drewN ?_ _ | refine blk_drew ?_ | refine blk_alloc ?_ _)); exact BK460.out) hb); have n2_ := Aside0.mk (below_step (by repeat (first | (with_reducible first | exact HB.out | apply below_alloc | apply pw_below_drewN | apply below_drew1 | refine below_set ?_ GE459.out | refine below_set ?_ GE460.out) | exact HB.out)) hb); clear BK459; clear BK460; clear HB; have BK459 := n0_; have BK460 := n1_; have HB := n2_; clear n0_ n1_ n2_; (try clear hb); (try clear hb2); (try clear hk); (try clear hi)))
    (try simp only [Act.put, List.setIfInBounds_toArray, List.set_cons_zero, List.set_cons_succ])
    go_cut [21] (fun v21 wc => ∃ (kq : Nat) (x21_4 : Bool), v21 = .bool x21_4 ∧ Aside0 (spoondriftref01_Power.j0 kq a1 x21_4 a0_0 a0_1 a0_2 a0_3 a0_4 = some (r1, r2, r3, r4, r5, r6)) ∧ Aside0 (kq ≤ k) ∧ Aside0 (wc.heap[gb459]? = some (.cells #[.int .i64 a0_0, .int .i64 a0_1, .int .i64 a0_2, .int .i64 a0_3, .int .i64 a0_4] 23 (0, 0))) ∧ Aside0 (wc.heap[gb460]? = some (.cells #[.int .i64 0, .int .i64 0, .int .i64 0, .int .i64 0, .int .i64 0] 23 (0, 0))) ∧ Aside0 (Below w.heap.size w wc))
    case first =>
      have H := HC5.out
      clear HC5
      by_cases c11 : a1 < 0
      · rw [if_pos c11] at H
        have c11b0 : decide (a1 < 0) = true := decide_eq_true c11
        clear c11
        (first | rw [c11b0] | (simp only [i64_w, i32_w]; rw [c11b0]) | skip)
        have H' := Aside0.mk H
        clear H
        go_wp2
        go_meet
        case rel => exact ⟨_, (true), (by first | rfl | (simp; done) | (simp [*]; done)), H', ⟨by first | omega | exact Nat.le_refl _⟩, ⟨by (with_reducible repeat (first | refine blk_drewN ?_ _ | refine blk_drew ?_ | refine blk_alloc ?_ _)); exact BK459.out⟩, ⟨by (with_reducible repeat (first | refine blk_drewN ?_ _ | refine blk_drew ?_ | refine blk_alloc ?_ _)); exact BK460.out⟩, ⟨by repeat (first | (with_reducible first | exact HB.out | apply below_alloc | apply pw_below_drewN | apply below_drew1 | refine below_set ?_ GE459.out | refine below_set ?_ GE460.out) | exact HB.out)⟩⟩
      · rw [if_neg c11] at H
        have c11b0 : decide (a1 < 0) = false := decide_eq_false c11
        clear c11
        (first | rw [c11b0] | (simp only [i64_w, i32_w]; rw [c11b0]) | skip)
        have H' := Aside0.mk H
        clear H
        go_wp2
        go_meet
        case rel => exact ⟨_, (decide (a1 > 64)), (by first | rfl | (simp; done) | (simp [*]; done)), H', ⟨by first | omega | exact Nat.le_refl _⟩, ⟨by (with_reducible repeat (first | refine blk_drewN ?_ _ | refine blk_drew ?_ | refine blk_alloc ?_ _)); exact BK459.out⟩, ⟨by (with_reducible repeat (first | refine blk_drewN ?_ _ | refine blk_drew ?_ | refine blk_alloc ?_ _)); exact BK460.out⟩, ⟨by repeat (first | (with_reducible first | exact HB.out | apply below_alloc | apply pw_below_drewN | apply below_drew1 | refine below_set ?_ GE459.out | refine below_set ?_ GE460.out) | exact HB.out)⟩⟩
    case rest =>
      clear HC5
      try clear c1
      try clear c2
      try clear p2
      try clear c4
      try clear c4b0
      try clear c4b1
      try clear c7
      try clear c8
      try clear c11
      try clear c11b0
      try clear hcz9_0
      try clear hcz9_1
      try clear hcz9_2
      try clear hcz9_3
      try clear hcz9_4
      try clear hfz9_0
      try clear hfz9_1
      try clear hfz9_2
      try clear hfz9_3
      try clear hfz9_4
      obtain ⟨kq, x21_4, rfl, HA, HJ4, BK459, BK460, HB⟩ := hcut
      cases kq with
      | zero => exact absurd HA.out (by simp [spoondriftref01_Power.j0])
      | succ kj4 =>
        have H := HA.out
        clear HA
        simp only [spoondriftref01_Power.j0] at H
        by_cases c12 : x21_4 = true
        · subst c12
          have H1 : (some (0, 0, 0, 0, 0, 3)) = some (r1, r2, r3, r4, r5, r6) := by rw [if_pos rfl] at H; exact H
          clear H
          have H := H1
          clear H1
          simp only [Option.some.injEq, Prod.mk.injEq] at H
          obtain ⟨rfl, rfl, rfl, rfl, rfl, rfl⟩ := H
          have hnb13 := NB460_459.out
          have hnc13 := NB459_460.out
          have hcz14_0 : wc.cell? ⟨gb460, 0, none⟩ = some (.int .i64 0) := (blk_cell BK460.out 0).trans rfl
          have hcz14_1 : wc.cell? ⟨gb460, 1, none⟩ = some (.int .i64 0) := (blk_cell BK460.out 1).trans rfl
          have hcz14_2 : wc.cell? ⟨gb460, 2, none⟩ = some (.int .i64 0) := (blk_cell BK460.out 2).trans rfl
          have hcz14_3 : wc.cell? ⟨gb460, 3, none⟩ = some (.int .i64 0) := (blk_cell BK460.out 3).trans rfl
          have hcz14_4 : wc.cell? ⟨gb460, 4, none⟩ = some (.int .i64 0) := (blk_cell BK460.out 4).trans rfl
          have hfz14_0 := blk_frozen BK460.out 0
          have hfz14_1 := blk_frozen BK460.out 1
          have hfz14_2 := blk_frozen BK460.out 2
          have hfz14_3 := blk_frozen BK460.out 3
          have hfz14_4 := blk_frozen BK460.out 4
          go_wp2
          refine bodyPost_ret (results_ct rfl _ _ gb460 23 #[.int .i64 0, .int .i64 0, .int .i64 0, .int .i64 0, .int .i64 0] (0, 0) _ rfl (by (with_reducible repeat (first | refine blk_drewN ?_ _ | refine blk_drew ?_ | refine blk_alloc ?_ _)); refine blk_put (cs := #[.int .i64 0, .int .i64 0, .int .i64 0, .int .i64 0, .int .i64 0]) ?_ 4 _ rfl; (with_reducible repeat (first | refine blk_drewN ?_ _ | refine blk_drew ?_ | refine blk_alloc ?_ _)); refine blk_put (cs := #[.int .i64 0, .int .i64 0, .int .i64 0, .int .i64 0, .int .i64 0]) ?_ 3 _ rfl; (with_reducible repeat (first | refine blk_drewN ?_ _ | refine blk_drew ?_ | refine blk_alloc ?_ _)); refine blk_put (cs := #[.int .i64 0, .int .i64 0, .int .i64 0, .int .i64 0, .int .i64 0]) ?_ 2 _ rfl; (with_reducible repeat (first | refine blk_drewN ?_ _ | refine blk_drew ?_ | refine blk_alloc ?_ _)); refine blk_put (cs := #[.int .i64 0, .int .i64 0, .int .i64 0, .int .i64 0, .int .i64 0]) ?_ 1 _ rfl; (with_reducible repeat (first | refine blk_drewN ?_ _ | refine blk_drew ?_ | refine blk_alloc ?_ _)); refine blk_put (cs := #[.int .i64 0, .int .i64 0, .int .i64 0, .int .i64 0, .int .i64 0]) ?_ 0 _ rfl; (with_reducible repeat (first | refine blk_drewN ?_ _ | refine blk_drew ?_ | refine blk_alloc ?_ _)); exact BK460.out) Tryz.underlying23 rfl (by kernel_rfl)) rfl ?_
          exact ⟨by first | rfl | (simp [errW_none, errW_some] <;> rfl) | (simp [*, errW_none, errW_some] <;> rfl), by repeat (first | (with_reducible first | exact HB.out | apply below_alloc | apply pw_below_drewN | apply below_drew1 | refine below_set ?_ GE459.out | refine below_set ?_ GE460.out) | exact HB.out)⟩
        · replace c12 := Bool.eq_false_iff.mpr c12
          subst c12
          have H1 : (spoondriftref01_Power.l0 kj4 a1 0 0 a0_0 a0_1 a0_2 a0_3 a0_4 1 0 0 0 0) = some (r1, r2, r3, r4, r5, r6) := by rw [if_neg (show ¬ (false = true) by decide)] at H; exact H
          clear H
          have H := H1
          clear H1
          have H' := Aside0.mk H
          clear H
          go_wp2_with (first | ((with_reducible refine gate_dst (N := 7) rfl ?_); refine box_event ?hg (N := 7) ?hd (cs := #[.int .i64 0, .int .i64 0, .int .i64 0, .int .i64 0, .int .i64 0]) (t := 23) ?hr ?_; (case hd => rfl); (case hg => rfl); (case hr => first | (go_simp; done) | (go_simp; rfl)); intro gb462 hg w15 hbox hb; have n0_ := Aside0.mk (blk_below (g := gb459) (o := .cells #[.int .i64 a0_0, .int .i64 a0_1, .int .i64 a0_2, .int .i64 a0_3, .int .i64 a0_4] 23 (0, 0)) (by (with_reducible repeat (first | refine blk_drewN ?_ _ | refine blk_drew ?_ | refine blk_alloc ?_ _)); exact BK459.out) hb); have n1_ := Aside0.mk (blk_below (g := gb460) (o := .cells #[.int .i64 0, .int .i64 0, .int .i64 0, .int .i64 0, .int .i64 0] 23 (0, 0)) (by (with_reducible repeat (first | refine blk_drewN ?_ _ | refine blk_drew ?_ | refine blk_alloc ?_ _)); exact BK460.out) hb); have n2_ := Aside0.mk (below_step (by repeat (first | (with_reducible first | exact HB.out | apply below_alloc | apply pw_below_drewN | apply below_drew1 | refine below_set ?_ GE459.out | refine below_set ?_ GE460.out) | exact HB.out)) hb); have n3_ := Aside0.mk (hbox); have n4_ := Aside0.mk ((by rw [hg]; exact (below_size (by repeat (first | (with_reducible first | exact HB.out | apply below_alloc | apply pw_below_drewN | apply below_drew1 | refine below_set ?_ GE459.out | refine below_set ?_ GE460.out) | exact HB.out))) : w.heap.size ≤ gb462)); have n5_ := Aside0.mk ((by rw [hg]; exact (below_size (by repeat (first | (with_reducible first | exact HB.out | apply below_alloc | apply pw_below_drewN | apply below_drew1 | refine below_set ?_ GE459.out | refine below_set ?_ GE460.out) | exact HB.out))) : w.heap.size ≤ gb462)); have n6_ := Aside0.mk ((by rw [hg]; exact Nat.ne_of_lt (blk_lt (g := gb459) (o := .cells #[.int .i64 a0_0, .int .i64 a0_1, .int .i64 a0_2, .int .i64 a0_3, .int .i64 a0_4] 23 (0, 0)) (by (with_reducible repeat (first | refine blk_drewN ?_ _ | refine blk_drew ?_ | refine blk_alloc ?_ _)); exact BK459.out)) : gb459 ≠ gb462)); have n7_ := Aside0.mk ((by rw [hg]; exact Nat.ne_of_gt (blk_lt (g := gb459) (o := .cells #[.int .i64 a0_0, .int .i64 a0_1, .int .i64 a0_2, .int .i64 a0_3, .int .i64 a0_4] 23 (0, 0)) (by (with_reducible repeat (first | refine blk_drewN ?_ _ | refine blk_drew ?_ | refine blk_alloc ?_ _)); exact BK459.out)) : gb462 ≠ gb459)); have n8_ := Aside0.mk ((by rw [hg]; exact Nat.ne_of_lt (blk_lt (g := gb460) (o := .cells #[.int .i64 0, .int .i64 0, .int .i64 0, .int .i64 0, .int .i64 0] 23 (0, 0)) (by (with_reducible repeat (first | refine blk_drewN ?_ _ | refine blk_drew ?_ | refine blk_alloc ?_ _)); exact BK460.out)) : gb460 ≠ gb462)); have n9_ := Aside0.mk ((by rw [hg]; exact Nat.ne_of_gt (blk_lt (g := gb460) (o := .cells #[.int .i64 0, .int .i64 0, .int .i64 0, .int .i64 0, .int .i64 0] 23 (0, 0)) (by (with_reducible repeat (first | refine blk_drewN ?_ _ | refine blk_drew ?_ | refine blk_alloc ?_ _)); exact BK460.out)) : gb462 ≠ gb460)); clear BK459; clear BK460; clear HB; have BK459 := n0_; have BK460 := n1_; have HB := n2_; have BK462 := n3_; have GW462 := n4_; have GE462 := n5_; have NB459_462 := n6_; have NB462_459 := n7_; have NB460_462 := n8_; have NB462_460 := n9_; clear n0_ n1_ n2_ n3_ n4_ n5_ n6_ n7_ n8_ n9_; clear hb hbox hg; have hnb16 := NB462_459.out; have hnc16 := NB459_462.out; have hnb17 := NB462_460.out; have hnc17 := NB460_462.out; have hcz18_0 : w15.cell? ⟨gb462, 0, none⟩ = some (.int .i64 0) := (blk_cell BK462.out 0).trans rfl; have hcz18_1 : w15.cell? ⟨gb462, 1, none⟩ = some (.int .i64 0) := (blk_cell BK462.out 1).trans rfl; have hcz18_2 : w15.cell? ⟨gb462, 2, none⟩ = some (.int .i64 0) := (blk_cell BK462.out 2).trans rfl; have hcz18_3 : w15.cell? ⟨gb462, 3, none⟩ = some (.int .i64 0) := (blk_cell BK462.out 3).trans rfl; have hcz18_4 : w15.cell? ⟨gb462, 4, none⟩ = some (.int .i64 0) := (blk_cell BK462.out 4).trans rfl; have hfz18_0 := blk_frozen BK462.out 0; have hfz18_1 := blk_frozen BK462.out 1; have hfz18_2 := blk_frozen BK462.out 2; have hfz18_3 := blk_frozen BK462.out 3; have hfz18_4 := blk_frozen BK462.out 4))
          (try simp only [Act.put, List.setIfInBounds_toArray, List.set_cons_zero, List.set_cons_succ])
          go_loopg [8, 9] kj4 (fun kq v8 v9 w' => ∃ (x8_2 : Int) (x9_2 : Int) (x463000_2 : Int) (x463001_2 : Int) (x463002_2 : Int) (x463003_2 : Int) (x463004_2 : Int), v8 = .int .i64 x8_2 ∧ v9 = .int .i64 x9_2 ∧ Aside0 (spoondriftref01_Power.l0 kq a1 x8_2 x9_2 a0_0 a0_1 a0_2 a0_3 a0_4 x463000_2 x463001_2 x463002_2 x463003_2 x463004_2 = some (r1, r2, r3, r4, r5, r6)) ∧ Aside0 (kq ≤ kj4) ∧ Aside0 (w'.heap[gb459]? = some (.cells #[.int .i64 a0_0, .int .i64 a0_1, .int .i64 a0_2, .int .i64 a0_3, .int .i64 a0_4] 23 (0, 0))) ∧ Aside0 (w'.heap[gb460]? = some (.cells #[.int .i64 0, .int .i64 0, .int .i64 0, .int .i64 0, .int .i64 0] 23 (0, 0))) ∧ Aside0 (w'.heap[gb462]? = some (.cells #[.int .i64 x463000_2, .int .i64 x463001_2, .int .i64 x463002_2, .int .i64 x463003_2, .int .i64 x463004_2] 23 (0, 0))) ∧ Aside0 (Below w.heap.size w w'))
          case atStart => exact ⟨(0), (0), (1), (0), (0), (0), (0), (by first | rfl | (simp; done) | (simp [*]; done)), (by first | rfl | (simp; done) | (simp [*]; done)), H', ⟨Nat.le_refl _⟩, ⟨by (with_reducible repeat (first | refine blk_drewN ?_ _ | refine blk_drew ?_ | refine blk_alloc ?_ _)); refine blk_far ?_ NB459_462.out _; (with_reducible repeat (first | refine blk_drewN ?_ _ | refine blk_drew ?_ | refine blk_alloc ?_ _)); refine blk_far ?_ NB459_462.out _; (with_reducible repeat (first | refine blk_drewN ?_ _ | refine blk_drew ?_ | refine blk_alloc ?_ _)); refine blk_far ?_ NB459_462.out _; (with_reducible repeat (first | refine blk_drewN ?_ _ | refine blk_drew ?_ | refine blk_alloc ?_ _)); refine blk_far ?_ NB459_462.out _; (with_reducible repeat (first | refine blk_drewN ?_ _ | refine blk_drew ?_ | refine blk_alloc ?_ _)); refine blk_far ?_ NB459_462.out _; (with_reducible repeat (first | refine blk_drewN ?_ _ | refine blk_drew ?_ | refine blk_alloc ?_ _)); exact BK459.out⟩, ⟨by (with_reducible repeat (first | refine blk_drewN ?_ _ | refine blk_drew ?_ | refine blk_alloc ?_ _)); refine blk_far ?_ NB460_462.out _; (with_reducible repeat (first | refine blk_drewN ?_ _ | refine blk_drew ?_ | refine blk_alloc ?_ _)); refine blk_far ?_ NB460_462.out _; (with_reducible repeat (first | refine blk_drewN ?_ _ | refine blk_drew ?_ | refine blk_alloc ?_ _)); refine blk_far ?_ NB460_462.out _; (with_reducible repeat (first | refine blk_drewN ?_ _ | refine blk_drew ?_ | refine blk_alloc ?_ _)); refine blk_far ?_ NB460_462.out _; (with_reducible repeat (first | refine blk_drewN ?_ _ | refine blk_drew ?_ | refine blk_alloc ?_ _)); refine blk_far ?_ NB460_462.out _; (with_reducible repeat (first | refine blk_drewN ?_ _ | refine blk_drew ?_ | refine blk_alloc ?_ _)); exact BK460.out⟩, ⟨by (with_reducible repeat (first | refine blk_drewN ?_ _ | refine blk_drew ?_ | refine blk_alloc ?_ _)); refine blk_put (cs := #[.int .i64 1, .int .i64 0, .int .i64 0, .int .i64 0, .int .i64 0]) ?_ 4 _ rfl; (with_reducible repeat (first | refine blk_drewN ?_ _ | refine blk_drew ?_ | refine blk_alloc ?_ _)); refine blk_put (cs := #[.int .i64 1, .int .i64 0, .int .i64 0, .int .i64 0, .int .i64 0]) ?_ 3 _ rfl; (with_reducible repeat (first | refine blk_drewN ?_ _ | refine blk_drew ?_ | refine blk_alloc ?_ _)); refine blk_put (cs := #[.int .i64 1, .int .i64 0, .int .i64 0, .int .i64 0, .int .i64 0]) ?_ 2 _ rfl; (with_reducible repeat (first | refine blk_drewN ?_ _ | refine blk_drew ?_ | refine blk_alloc ?_ _)); refine blk_put (cs := #[.int .i64 1, .int .i64 0, .int .i64 0, .int .i64 0, .int .i64 0]) ?_ 1 _ rfl; (with_reducible repeat (first | refine blk_drewN ?_ _ | refine blk_drew ?_ | refine blk_alloc ?_ _)); refine blk_put (cs := #[.int .i64 0, .int .i64 0, .int .i64 0, .int .i64 0, .int .i64 0]) ?_ 0 _ rfl; (with_reducible repeat (first | refine blk_drewN ?_ _ | refine blk_drew ?_ | refine blk_alloc ?_ _)); exact BK462.out⟩, ⟨by repeat (first | (with_reducible first | exact HB.out | apply below_alloc | apply pw_below_drewN | apply below_drew1 | refine below_set ?_ GE459.out | refine below_set ?_ GE460.out | refine below_set ?_ GE462.out) | exact HB.out)⟩⟩
          case round =>
            clear H'
            try clear c1
            try clear c2
            try clear p2
            try clear c4
            try clear c4b0
            try clear c4b1
            try clear c7
            try clear c8
            try clear c11
            try clear c11b0
            try clear c12
            try clear c13
            try clear c16
            try clear c17
            try clear hcz14_0
            try clear hcz14_1
            try clear hcz14_2
            try clear hcz14_3
            try clear hcz14_4
            try clear hcz18_0
            try clear hcz18_1
            try clear hcz18_2
            try clear hcz18_3
            try clear hcz18_4
            try clear hcz9_0
            try clear hcz9_1
            try clear hcz9_2
            try clear hcz9_3
            try clear hcz9_4
            try clear hfz14_0
            try clear hfz14_1
            try clear hfz14_2
            try clear hfz14_3
            try clear hfz14_4
            try clear hfz18_0
            try clear hfz18_1
            try clear hfz18_2
            try clear hfz18_3
            try clear hfz18_4
            try clear hfz9_0
            try clear hfz9_1
            try clear hfz9_2
            try clear hfz9_3
            try clear hfz9_4
            try clear p2
            obtain ⟨x8_2, x9_2, x463000_2, x463001_2, x463002_2, x463003_2, x463004_2, rfl, rfl, HA, HK2, BK459, BK460, BK462, HB⟩ := hrel
            cases gk with
            | zero => exact absurd HA.out (by simp [spoondriftref01_Power.l0])
            | succ k2 =>
              have H := HA.out
              clear HA
              simp only [spoondriftref01_Power.l0] at H
              by_cases c19 : x9_2 < a1
              · rw [if_pos c19] at H
                have c19b0 : decide (x9_2 < a1) = true := decide_eq_true c19
                clear c19
                by_cases c20 : x8_2 = 0
                · rw [if_pos c20] at H
                  have c20b0 : (x8_2 == 0) = true := beq_iff_eq.mpr c20
                  have c20b1 : (x8_2 != 0) = false := bne_eq_false_iff_eq.mpr c20
                  clear c20
                  replace H := Option.bind_eq_some_iff.mp H
                  obtain ⟨⟨t463, t464, t465, t466, t467, t468⟩, A210, H⟩ := H
                  replace H : (spoondriftref01_Power.l0 k2 a1 t468 (wrap64 (x9_2 + 1)) a0_0 a0_1 a0_2 a0_3 a0_4 t463 t464 t465 t466 t467) = some (r1, r2, r3, r4, r5, r6) := H
                  have A21 := Aside0.mk A210
                  clear A210
                  have H' := Aside0.mk H
                  clear H
                  have hnb22 := NB462_459.out
                  have hnc22 := NB459_462.out
                  have hnb23 := NB462_460.out
                  have hnc23 := NB460_462.out
                  have hcz24_0 : wr.cell? ⟨gb462, 0, none⟩ = some (.int .i64 x463000_2) := (blk_cell BK462.out 0).trans rfl
                  have hcz24_1 : wr.cell? ⟨gb462, 1, none⟩ = some (.int .i64 x463001_2) := (blk_cell BK462.out 1).trans rfl
                  have hcz24_2 : wr.cell? ⟨gb462, 2, none⟩ = some (.int .i64 x463002_2) := (blk_cell BK462.out 2).trans rfl
                  have hcz24_3 : wr.cell? ⟨gb462, 3, none⟩ = some (.int .i64 x463003_2) := (blk_cell BK462.out 3).trans rfl
                  have hcz24_4 : wr.cell? ⟨gb462, 4, none⟩ = some (.int .i64 x463004_2) := (blk_cell BK462.out 4).trans rfl
                  have hfz24_0 := blk_frozen BK462.out 0
                  have hfz24_1 := blk_frozen BK462.out 1
                  have hfz24_2 := blk_frozen BK462.out 2
                  have hfz24_3 := blk_frozen BK462.out 3
                  have hfz24_4 := blk_frozen BK462.out 4
                  have hnb25 := NB459_460.out
                  have hnc25 := NB460_459.out
                  have hcz26_0 : wr.cell? ⟨gb459, 0, none⟩ = some (.int .i64 a0_0) := (blk_cell BK459.out 0).trans rfl
                  have hcz26_1 : wr.cell? ⟨gb459, 1, none⟩ = some (.int .i64 a0_1) := (blk_cell BK459.out 1).trans rfl
                  have hcz26_2 : wr.cell? ⟨gb459, 2, none⟩ = some (.int .i64 a0_2) := (blk_cell BK459.out 2).trans rfl
                  have hcz26_3 : wr.cell? ⟨gb459, 3, none⟩ = some (.int .i64 a0_3) := (blk_cell BK459.out 3).trans rfl
                  have hcz26_4 : wr.cell? ⟨gb459, 4, none⟩ = some (.int .i64 a0_4) := (blk_cell BK459.out 4).trans rfl
                  have hfz26_0 := blk_frozen BK459.out 0
                  have hfz26_1 := blk_frozen BK459.out 1
                  have hfz26_2 := blk_frozen BK459.out 2
                  have hfz26_3 := blk_frozen BK459.out 3
                  have hfz26_4 := blk_frozen BK459.out 4
                  go_wp2_with (first | ((with_reducible refine gate_callee (f := 28) rfl ?_); refine goesL_ (some 36) rfl rfl Tryz.func28 (by kernel_rfl) rfl #[.agg #[.int .i64 x463000_2, .int .i64 x463001_2, .int .i64 x463002_2, .int .i64 x463003_2, .int .i64 x463004_2], .agg #[.int .i64 a0_0, .int .i64 a0_1, .int .i64 a0_2, .int .i64 a0_3, .int .i64 a0_4]] rfl (by (try simp only [List.map_toArray, List.map_cons, List.map_nil]); first | done | rfl | (simp only [List.length_drop, List.length_take]; rfl)) ?_; (with_reducible refine (spoondriftref01_Mul.calls k2 x463000_2 x463001_2 x463002_2 x463003_2 x463004_2 a0_0 a0_1 a0_2 a0_3 a0_4 t463 t464 t465 t466 t467 t468 _ A21.out).mono ?_); rintro e w27 ⟨rfl, hb⟩; refine ⟨_, rfl, ?_⟩; have n0_ := Aside0.mk (blk_below (g := gb459) (o := .cells #[.int .i64 a0_0, .int .i64 a0_1, .int .i64 a0_2, .int .i64 a0_3, .int .i64 a0_4] 23 (0, 0)) (by (with_reducible repeat (first | refine blk_drewN ?_ _ | refine blk_drew ?_ | refine blk_alloc ?_ _)); exact BK459.out) hb); have n1_ := Aside0.mk (blk_below (g := gb460) (o := .cells #[.int .i64 0, .int .i64 0, .int .i64 0, .int .i64 0, .int .i64 0] 23 (0, 0)) (by (with_reducible repeat (first | refine blk_drewN ?_ _ | refine blk_drew ?_ | refine blk_alloc ?_ _)); exact BK460.out) hb); have n2_ := Aside0.mk (blk_below (g := gb462) (o := .cells #[.int .i64 x463000_2, .int .i64 x463001_2, .int .i64 x463002_2, .int .i64 x463003_2, .int .i64 x463004_2] 23 (0, 0)) (by (with_reducible repeat (first | refine blk_drewN ?_ _ | refine blk_drew ?_ | refine blk_alloc ?_ _)); exact BK462.out) hb); have n3_ := Aside0.mk (below_step (by repeat (first | (with_reducible first | exact HB.out | apply below_alloc | apply pw_below_drewN | apply below_drew1 | refine below_set ?_ GE459.out | refine below_set ?_ GE460.out | refine below_set ?_ GE462.out) | exact HB.out)) hb); clear BK459; clear BK460; clear BK462; clear HB; have BK459 := n0_; have BK460 := n1_; have BK462 := n2_; have HB := n3_; clear n0_ n1_ n2_ n3_; (try clear hb); (try clear hb2); (try clear hk); (try clear hi); have hcz28_0 : w27.cell? ⟨gb462, 0, none⟩ = some (.int .i64 x463000_2) := (blk_cell BK462.out 0).trans rfl; have hcz28_1 : w27.cell? ⟨gb462, 1, none⟩ = some (.int .i64 x463001_2) := (blk_cell BK462.out 1).trans rfl; have hcz28_2 : w27.cell? ⟨gb462, 2, none⟩ = some (.int .i64 x463002_2) := (blk_cell BK462.out 2).trans rfl; have hcz28_3 : w27.cell? ⟨gb462, 3, none⟩ = some (.int .i64 x463003_2) := (blk_cell BK462.out 3).trans rfl; have hcz28_4 : w27.cell? ⟨gb462, 4, none⟩ = some (.int .i64 x463004_2) := (blk_cell BK462.out 4).trans rfl; have hfz28_0 := blk_frozen BK462.out 0; have hfz28_1 := blk_frozen BK462.out 1; have hfz28_2 := blk_frozen BK462.out 2; have hfz28_3 := blk_frozen BK462.out 3; have hfz28_4 := blk_frozen BK462.out 4))
                  go_roundg k2
                  case measure => have := HJ4.out; have := HK2.out; omega
                  case rel => exact ⟨(t468), (wrap64 (x9_2 + 1)), (t463), (t464), (t465), (t466), (t467), (by first | rfl | (simp; done) | (simp [*]; done)), (by first | rfl | (simp; done) | (simp [*]; done)), H', ⟨by have := HJ4.out; have := HK2.out; omega⟩, ⟨by (with_reducible repeat (first | refine blk_drewN ?_ _ | refine blk_drew ?_ | refine blk_alloc ?_ _)); refine blk_far ?_ NB459_462.out _; (with_reducible repeat (first | refine blk_drewN ?_ _ | refine blk_drew ?_ | refine blk_alloc ?_ _)); refine blk_far ?_ NB459_462.out _; (with_reducible repeat (first | refine blk_drewN ?_ _ | refine blk_drew ?_ | refine blk_alloc ?_ _)); refine blk_far ?_ NB459_462.out _; (with_reducible repeat (first | refine blk_drewN ?_ _ | refine blk_drew ?_ | refine blk_alloc ?_ _)); refine blk_far ?_ NB459_462.out _; (with_reducible repeat (first | refine blk_drewN ?_ _ | refine blk_drew ?_ | refine blk_alloc ?_ _)); refine blk_far ?_ NB459_462.out _; (with_reducible repeat (first | refine blk_drewN ?_ _ | refine blk_drew ?_ | refine blk_alloc ?_ _)); exact BK459.out⟩, ⟨by (with_reducible repeat (first | refine blk_drewN ?_ _ | refine blk_drew ?_ | refine blk_alloc ?_ _)); refine blk_far ?_ NB460_462.out _; (with_reducible repeat (first | refine blk_drewN ?_ _ | refine blk_drew ?_ | refine blk_alloc ?_ _)); refine blk_far ?_ NB460_462.out _; (with_reducible repeat (first | refine blk_drewN ?_ _ | refine blk_drew ?_ | refine blk_alloc ?_ _)); refine blk_far ?_ NB460_462.out _; (with_reducible repeat (first | refine blk_drewN ?_ _ | refine blk_drew ?_ | refine blk_alloc ?_ _)); refine blk_far ?_ NB460_462.out _; (with_reducible repeat (first | refine blk_drewN ?_ _ | refine blk_drew ?_ | refine blk_alloc ?_ _)); refine blk_far ?_ NB460_462.out _; (with_reducible repeat (first | refine blk_drewN ?_ _ | refine blk_drew ?_ | refine blk_alloc ?_ _)); exact BK460.out⟩, ⟨by (with_reducible repeat (first | refine blk_drewN ?_ _ | refine blk_drew ?_ | refine blk_alloc ?_ _)); refine blk_put (cs := #[.int .i64 t463, .int .i64 t464, .int .i64 t465, .int .i64 t466, .int .i64 x463004_2]) ?_ 4 _ rfl; (with_reducible repeat (first | refine blk_drewN ?_ _ | refine blk_drew ?_ | refine blk_alloc ?_ _)); refine blk_put (cs := #[.int .i64 t463, .int .i64 t464, .int .i64 t465, .int .i64 x463003_2, .int .i64 x463004_2]) ?_ 3 _ rfl; (with_reducible repeat (first | refine blk_drewN ?_ _ | refine blk_drew ?_ | refine blk_alloc ?_ _)); refine blk_put (cs := #[.int .i64 t463, .int .i64 t464, .int .i64 x463002_2, .int .i64 x463003_2, .int .i64 x463004_2]) ?_ 2 _ rfl; (with_reducible repeat (first | refine blk_drewN ?_ _ | refine blk_drew ?_ | refine blk_alloc ?_ _)); refine blk_put (cs := #[.int .i64 t463, .int .i64 x463001_2, .int .i64 x463002_2, .int .i64 x463003_2, .int .i64 x463004_2]) ?_ 1 _ rfl; (with_reducible repeat (first | refine blk_drewN ?_ _ | refine blk_drew ?_ | refine blk_alloc ?_ _)); refine blk_put (cs := #[.int .i64 x463000_2, .int .i64 x463001_2, .int .i64 x463002_2, .int .i64 x463003_2, .int .i64 x463004_2]) ?_ 0 _ rfl; (with_reducible repeat (first | refine blk_drewN ?_ _ | refine blk_drew ?_ | refine blk_alloc ?_ _)); exact BK462.out⟩, ⟨by repeat (first | (with_reducible first | exact HB.out | apply below_alloc | apply pw_below_drewN | apply below_drew1 | refine below_set ?_ GE459.out | refine below_set ?_ GE460.out | refine below_set ?_ GE462.out) | exact HB.out)⟩⟩
                · rw [if_neg c20] at H
                  have c20b0 : (x8_2 == 0) = false := beq_eq_false_iff_ne.mpr c20
                  have c20b1 : (x8_2 != 0) = true := bne_iff_ne.mpr c20
                  simp only [Option.some.injEq, Prod.mk.injEq] at H
                  obtain ⟨rfl, rfl, rfl, rfl, rfl, rfl⟩ := H
                  have hnb29 := NB462_459.out
                  have hnc29 := NB459_462.out
                  have hnb30 := NB462_460.out
                  have hnc30 := NB460_462.out
                  have hcz31_0 : wr.cell? ⟨gb462, 0, none⟩ = some (.int .i64 x463000_2) := (blk_cell BK462.out 0).trans rfl
                  have hcz31_1 : wr.cell? ⟨gb462, 1, none⟩ = some (.int .i64 x463001_2) := (blk_cell BK462.out 1).trans rfl
                  have hcz31_2 : wr.cell? ⟨gb462, 2, none⟩ = some (.int .i64 x463002_2) := (blk_cell BK462.out 2).trans rfl
                  have hcz31_3 : wr.cell? ⟨gb462, 3, none⟩ = some (.int .i64 x463003_2) := (blk_cell BK462.out 3).trans rfl
                  have hcz31_4 : wr.cell? ⟨gb462, 4, none⟩ = some (.int .i64 x463004_2) := (blk_cell BK462.out 4).trans rfl
                  have hfz31_0 := blk_frozen BK462.out 0
                  have hfz31_1 := blk_frozen BK462.out 1
                  have hfz31_2 := blk_frozen BK462.out 2
                  have hfz31_3 := blk_frozen BK462.out 3
                  have hfz31_4 := blk_frozen BK462.out 4
                  have hnb32 := NB460_459.out
                  have hnc32 := NB459_460.out
                  have hcz33_0 : wr.cell? ⟨gb460, 0, none⟩ = some (.int .i64 0) := (blk_cell BK460.out 0).trans rfl
                  have hcz33_1 : wr.cell? ⟨gb460, 1, none⟩ = some (.int .i64 0) := (blk_cell BK460.out 1).trans rfl
                  have hcz33_2 : wr.cell? ⟨gb460, 2, none⟩ = some (.int .i64 0) := (blk_cell BK460.out 2).trans rfl
                  have hcz33_3 : wr.cell? ⟨gb460, 3, none⟩ = some (.int .i64 0) := (blk_cell BK460.out 3).trans rfl
                  have hcz33_4 : wr.cell? ⟨gb460, 4, none⟩ = some (.int .i64 0) := (blk_cell BK460.out 4).trans rfl
                  have hfz33_0 := blk_frozen BK460.out 0
                  have hfz33_1 := blk_frozen BK460.out 1
                  have hfz33_2 := blk_frozen BK460.out 2
                  have hfz33_3 := blk_frozen BK460.out 3
                  have hfz33_4 := blk_frozen BK460.out 4
                  go_wp2
                  refine bodyPost_ret (results_ct rfl _ _ gb460 23 #[.int .i64 x463000_2, .int .i64 x463001_2, .int .i64 x463002_2, .int .i64 x463003_2, .int .i64 x463004_2] (0, 0) _ rfl (by (with_reducible repeat (first | refine blk_drewN ?_ _ | refine blk_drew ?_ | refine blk_alloc ?_ _)); refine blk_put (cs := #[.int .i64 x463000_2, .int .i64 x463001_2, .int .i64 x463002_2, .int .i64 x463003_2, .int .i64 0]) ?_ 4 _ rfl; (with_reducible repeat (first | refine blk_drewN ?_ _ | refine blk_drew ?_ | refine blk_alloc ?_ _)); refine blk_put (cs := #[.int .i64 x463000_2, .int .i64 x463001_2, .int .i64 x463002_2, .int .i64 0, .int .i64 0]) ?_ 3 _ rfl; (with_reducible repeat (first | refine blk_drewN ?_ _ | refine blk_drew ?_ | refine blk_alloc ?_ _)); refine blk_put (cs := #[.int .i64 x463000_2, .int .i64 x463001_2, .int .i64 0, .int .i64 0, .int .i64 0]) ?_ 2 _ rfl; (with_reducible repeat (first | refine blk_drewN ?_ _ | refine blk_drew ?_ | refine blk_alloc ?_ _)); refine blk_put (cs := #[.int .i64 x463000_2, .int .i64 0, .int .i64 0, .int .i64 0, .int .i64 0]) ?_ 1 _ rfl; (with_reducible repeat (first | refine blk_drewN ?_ _ | refine blk_drew ?_ | refine blk_alloc ?_ _)); refine blk_put (cs := #[.int .i64 0, .int .i64 0, .int .i64 0, .int .i64 0, .int .i64 0]) ?_ 0 _ rfl; (with_reducible repeat (first | refine blk_drewN ?_ _ | refine blk_drew ?_ | refine blk_alloc ?_ _)); exact BK460.out) Tryz.underlying23 rfl (by kernel_rfl)) rfl ?_
                  exact ⟨by first | rfl | (simp [errW_none, errW_some] <;> rfl) | (simp [*, errW_none, errW_some] <;> rfl), by repeat (first | (with_reducible first | exact HB.out | apply below_alloc | apply pw_below_drewN | apply below_drew1 | refine below_set ?_ GE459.out | refine below_set ?_ GE460.out | refine below_set ?_ GE462.out) | exact HB.out)⟩
              · rw [if_neg c19] at H
                have c19b0 : decide (x9_2 < a1) = false := decide_eq_false c19
                clear c19
                simp only [Option.some.injEq, Prod.mk.injEq] at H
                obtain ⟨rfl, rfl, rfl, rfl, rfl, rfl⟩ := H
                have hnb34 := NB462_459.out
                have hnc34 := NB459_462.out
                have hnb35 := NB462_460.out
                have hnc35 := NB460_462.out
                have hcz36_0 : wr.cell? ⟨gb462, 0, none⟩ = some (.int .i64 x463000_2) := (blk_cell BK462.out 0).trans rfl
                have hcz36_1 : wr.cell? ⟨gb462, 1, none⟩ = some (.int .i64 x463001_2) := (blk_cell BK462.out 1).trans rfl
                have hcz36_2 : wr.cell? ⟨gb462, 2, none⟩ = some (.int .i64 x463002_2) := (blk_cell BK462.out 2).trans rfl
                have hcz36_3 : wr.cell? ⟨gb462, 3, none⟩ = some (.int .i64 x463003_2) := (blk_cell BK462.out 3).trans rfl
                have hcz36_4 : wr.cell? ⟨gb462, 4, none⟩ = some (.int .i64 x463004_2) := (blk_cell BK462.out 4).trans rfl
                have hfz36_0 := blk_frozen BK462.out 0
                have hfz36_1 := blk_frozen BK462.out 1
                have hfz36_2 := blk_frozen BK462.out 2
                have hfz36_3 := blk_frozen BK462.out 3
                have hfz36_4 := blk_frozen BK462.out 4
                have hnb37 := NB460_459.out
                have hnc37 := NB459_460.out
                have hcz38_0 : wr.cell? ⟨gb460, 0, none⟩ = some (.int .i64 0) := (blk_cell BK460.out 0).trans rfl
                have hcz38_1 : wr.cell? ⟨gb460, 1, none⟩ = some (.int .i64 0) := (blk_cell BK460.out 1).trans rfl
                have hcz38_2 : wr.cell? ⟨gb460, 2, none⟩ = some (.int .i64 0) := (blk_cell BK460.out 2).trans rfl
                have hcz38_3 : wr.cell? ⟨gb460, 3, none⟩ = some (.int .i64 0) := (blk_cell BK460.out 3).trans rfl
                have hcz38_4 : wr.cell? ⟨gb460, 4, none⟩ = some (.int .i64 0) := (blk_cell BK460.out 4).trans rfl
                have hfz38_0 := blk_frozen BK460.out 0
                have hfz38_1 := blk_frozen BK460.out 1
                have hfz38_2 := blk_frozen BK460.out 2
                have hfz38_3 := blk_frozen BK460.out 3
                have hfz38_4 := blk_frozen BK460.out 4
                go_wp2
                refine bodyPost_ret (results_ct rfl _ _ gb460 23 #[.int .i64 x463000_2, .int .i64 x463001_2, .int .i64 x463002_2, .int .i64 x463003_2, .int .i64 x463004_2] (0, 0) _ rfl (by (with_reducible repeat (first | refine blk_drewN ?_ _ | refine blk_drew ?_ | refine blk_alloc ?_ _)); refine blk_put (cs := #[.int .i64 x463000_2, .int .i64 x463001_2, .int .i64 x463002_2, .int .i64 x463003_2, .int .i64 0]) ?_ 4 _ rfl; (with_reducible repeat (first | refine blk_drewN ?_ _ | refine blk_drew ?_ | refine blk_alloc ?_ _)); refine blk_put (cs := #[.int .i64 x463000_2, .int .i64 x463001_2, .int .i64 x463002_2, .int .i64 0, .int .i64 0]) ?_ 3 _ rfl; (with_reducible repeat (first | refine blk_drewN ?_ _ | refine blk_drew ?_ | refine blk_alloc ?_ _)); refine blk_put (cs := #[.int .i64 x463000_2, .int .i64 x463001_2, .int .i64 0, .int .i64 0, .int .i64 0]) ?_ 2 _ rfl; (with_reducible repeat (first | refine blk_drewN ?_ _ | refine blk_drew ?_ | refine blk_alloc ?_ _)); refine blk_put (cs := #[.int .i64 x463000_2, .int .i64 0, .int .i64 0, .int .i64 0, .int .i64 0]) ?_ 1 _ rfl; (with_reducible repeat (first | refine blk_drewN ?_ _ | refine blk_drew ?_ | refine blk_alloc ?_ _)); refine blk_put (cs := #[.int .i64 0, .int .i64 0, .int .i64 0, .int .i64 0, .int .i64 0]) ?_ 0 _ rfl; (with_reducible repeat (first | refine blk_drewN ?_ _ | refine blk_drew ?_ | refine blk_alloc ?_ _)); exact BK460.out) Tryz.underlying23 rfl (by kernel_rfl)) rfl ?_
                exact ⟨by first | rfl | (simp [errW_none, errW_some] <;> rfl) | (simp [*, errW_none, errW_some] <;> rfl), by repeat (first | (with_reducible first | exact HB.out | apply below_alloc | apply pw_below_drewN | apply below_drew1 | refine below_set ?_ GE459.out | refine below_set ?_ GE460.out | refine below_set ?_ GE462.out) | exact HB.out)⟩
  · rw [if_neg c4] at H
    have c4b0 : (t461 == 0) = false := beq_eq_false_iff_ne.mpr c4
    have c4b1 : (t461 != 0) = true := bne_iff_ne.mpr c4
    simp only [Option.some.injEq, Prod.mk.injEq] at H
    obtain ⟨rfl, rfl, rfl, rfl, rfl, rfl⟩ := H
    go_enter Tryz.func7, Tryz.ntmps7
    go_wp2_with (first | ((with_reducible refine gate_dst (N := 2) rfl ?_); refine box_event ?hg (N := 2) ?hd (cs := #[.int .i64 a0_0, .int .i64 a0_1, .int .i64 a0_2, .int .i64 a0_3, .int .i64 a0_4]) (t := 23) ?hr ?_; (case hd => rfl); (case hg => rfl); (case hr => first | (go_simp; done) | (go_simp; rfl)); intro gb459 hg w39 hbox hb; have n0_ := Aside0.mk (below_step (by repeat (first | (with_reducible first | exact HB.out | apply below_alloc | apply pw_below_drewN | apply below_drew1) | exact HB.out)) hb); have n1_ := Aside0.mk (hbox); have n2_ := Aside0.mk ((by rw [hg]; exact (below_size (by repeat (first | (with_reducible first | exact HB.out | apply below_alloc | apply pw_below_drewN | apply below_drew1) | exact HB.out))) : w.heap.size ≤ gb459)); have n3_ := Aside0.mk ((by rw [hg]; exact (below_size (by repeat (first | (with_reducible first | exact HB.out | apply below_alloc | apply pw_below_drewN | apply below_drew1) | exact HB.out))) : w.heap.size ≤ gb459)); clear HB; have HB := n0_; have BK459 := n1_; have GW459 := n2_; have GE459 := n3_; clear n0_ n1_ n2_ n3_; clear hb hbox hg) | ((with_reducible refine gate_dst (N := 4) rfl ?_); refine box_event ?hg (N := 4) ?hd (cs := #[.int .i64 0, .int .i64 0, .int .i64 0, .int .i64 0, .int .i64 0]) (t := 23) ?hr ?_; (case hd => rfl); (case hg => rfl); (case hr => first | (go_simp; done) | (go_simp; rfl)); intro gb460 hg w40 hbox hb; have n0_ := Aside0.mk (blk_below (g := gb459) (o := .cells #[.int .i64 a0_0, .int .i64 a0_1, .int .i64 a0_2, .int .i64 a0_3, .int .i64 a0_4] 23 (0, 0)) (by (with_reducible repeat (first | refine blk_drewN ?_ _ | refine blk_drew ?_ | refine blk_alloc ?_ _)); exact BK459.out) hb); have n1_ := Aside0.mk (below_step (by repeat (first | (with_reducible first | exact HB.out | apply below_alloc | apply pw_below_drewN | apply below_drew1 | refine below_set ?_ GE459.out) | exact HB.out)) hb); have n2_ := Aside0.mk (hbox); have n3_ := Aside0.mk ((by rw [hg]; exact (below_size (by repeat (first | (with_reducible first | exact HB.out | apply below_alloc | apply pw_below_drewN | apply below_drew1 | refine below_set ?_ GE459.out) | exact HB.out))) : w.heap.size ≤ gb460)); have n4_ := Aside0.mk ((by rw [hg]; exact (below_size (by repeat (first | (with_reducible first | exact HB.out | apply below_alloc | apply pw_below_drewN | apply below_drew1 | refine below_set ?_ GE459.out) | exact HB.out))) : w.heap.size ≤ gb460)); have n5_ := Aside0.mk ((by rw [hg]; exact Nat.ne_of_lt (blk_lt (g := gb459) (o := .cells #[.int .i64 a0_0, .int .i64 a0_1, .int .i64 a0_2, .int .i64 a0_3, .int .i64 a0_4] 23 (0, 0)) (by (with_reducible repeat (first | refine blk_drewN ?_ _ | refine blk_drew ?_ | refine blk_alloc ?_ _)); exact BK459.out)) : gb459 ≠ gb460)); have n6_ := Aside0.mk ((by rw [hg]; exact Nat.ne_of_gt (blk_lt (g := gb459) (o := .cells #[.int .i64 a0_0, .int .i64 a0_1, .int .i64 a0_2, .int .i64 a0_3, .int .i64 a0_4] 23 (0, 0)) (by (with_reducible repeat (first | refine blk_drewN ?_ _ | refine blk_drew ?_ | refine blk_alloc ?_ _)); exact BK459.out)) : gb460 ≠ gb459)); clear BK459; clear HB; have BK459 := n0_; have HB := n1_; have BK460 := n2_; have GW460 := n3_; have GE460 := n4_; have NB459_460 := n5_; have NB460_459 := n6_; clear n0_ n1_ n2_ n3_ n4_ n5_ n6_; clear hb hbox hg; have hnb41 := NB459_460.out; have hnc41 := NB460_459.out; have hcz42_0 : w40.cell? ⟨gb459, 0, none⟩ = some (.int .i64 a0_0) := (blk_cell BK459.out 0).trans rfl; have hcz42_1 : w40.cell? ⟨gb459, 1, none⟩ = some (.int .i64 a0_1) := (blk_cell BK459.out 1).trans rfl; have hcz42_2 : w40.cell? ⟨gb459, 2, none⟩ = some (.int .i64 a0_2) := (blk_cell BK459.out 2).trans rfl; have hcz42_3 : w40.cell? ⟨gb459, 3, none⟩ = some (.int .i64 a0_3) := (blk_cell BK459.out 3).trans rfl; have hcz42_4 : w40.cell? ⟨gb459, 4, none⟩ = some (.int .i64 a0_4) := (blk_cell BK459.out 4).trans rfl; have hfz42_0 := blk_frozen BK459.out 0; have hfz42_1 := blk_frozen BK459.out 1; have hfz42_2 := blk_frozen BK459.out 2; have hfz42_3 := blk_frozen BK459.out 3; have hfz42_4 := blk_frozen BK459.out 4) | ((with_reducible refine gate_callee (f := 27) rfl ?_); refine goesL_ (some 11) rfl rfl Tryz.func27 (by kernel_rfl) rfl #[.agg #[.int .i64 a0_0, .int .i64 a0_1, .int .i64 a0_2, .int .i64 a0_3, .int .i64 a0_4]] rfl (by (try simp only [List.map_toArray, List.map_cons, List.map_nil]); first | done | rfl | (simp only [List.length_drop, List.length_take]; rfl)) ?_; (with_reducible refine (spoondriftref01_Check.calls k a0_0 a0_1 a0_2 a0_3 a0_4 t461 _ A3.out).mono ?_); rintro e w43 ⟨rfl, hb⟩; refine ⟨_, rfl, ?_⟩; have n0_ := Aside0.mk (blk_below (g := gb459) (o := .cells #[.int .i64 a0_0, .int .i64 a0_1, .int .i64 a0_2, .int .i64 a0_3, .int .i64 a0_4] 23 (0, 0)) (by (with_reducible repeat (first | refine blk_drewN ?_ _ | refine blk_drew ?_ | refine blk_alloc ?_ _)); exact BK459.out) hb); have n1_ := Aside0.mk (blk_below (g := gb460) (o := .cells #[.int .i64 0, .int .i64 0, .int .i64 0, .int .i64 0, .int .i64 0] 23 (0, 0)) (by (with_reducible repeat (first | refine blk_drewN ?_ _ | refine blk_drew ?_ | refine blk_alloc ?_ _)); exact BK460.out) hb); have n2_ := Aside0.mk (below_step (by repeat (first | (with_reducible first | exact HB.out | apply below_alloc | apply pw_below_drewN | apply below_drew1 | refine below_set ?_ GE459.out | refine below_set ?_ GE460.out) | exact HB.out)) hb); clear BK459; clear BK460; clear HB; have BK459 := n0_; have BK460 := n1_; have HB := n2_; clear n0_ n1_ n2_; (try clear hb); (try clear hb2); (try clear hk); (try clear hi); have hcz44_0 : w43.cell? ⟨gb460, 0, none⟩ = some (.int .i64 0) := (blk_cell BK460.out 0).trans rfl; have hcz44_1 : w43.cell? ⟨gb460, 1, none⟩ = some (.int .i64 0) := (blk_cell BK460.out 1).trans rfl; have hcz44_2 : w43.cell? ⟨gb460, 2, none⟩ = some (.int .i64 0) := (blk_cell BK460.out 2).trans rfl; have hcz44_3 : w43.cell? ⟨gb460, 3, none⟩ = some (.int .i64 0) := (blk_cell BK460.out 3).trans rfl; have hcz44_4 : w43.cell? ⟨gb460, 4, none⟩ = some (.int .i64 0) := (blk_cell BK460.out 4).trans rfl; have hfz44_0 := blk_frozen BK460.out 0; have hfz44_1 := blk_frozen BK460.out 1; have hfz44_2 := blk_frozen BK460.out 2; have hfz44_3 := blk_frozen BK460.out 3; have hfz44_4 := blk_frozen BK460.out 4))
    refine bodyPost_ret (results_ct rfl _ _ gb460 23 #[.int .i64 0, .int .i64 0, .int .i64 0, .int .i64 0, .int .i64 0] (0, 0) _ rfl (by (with_reducible repeat (first | refine blk_drewN ?_ _ | refine blk_drew ?_ | refine blk_alloc ?_ _)); refine blk_put (cs := #[.int .i64 0, .int .i64 0, .int .i64 0, .int .i64 0, .int .i64 0]) ?_ 4 _ rfl; (with_reducible repeat (first | refine blk_drewN ?_ _ | refine blk_drew ?_ | refine blk_alloc ?_ _)); refine blk_put (cs := #[.int .i64 0, .int .i64 0, .int .i64 0, .int .i64 0, .int .i64 0]) ?_ 3 _ rfl; (with_reducible repeat (first | refine blk_drewN ?_ _ | refine blk_drew ?_ | refine blk_alloc ?_ _)); refine blk_put (cs := #[.int .i64 0, .int .i64 0, .int .i64 0, .int .i64 0, .int .i64 0]) ?_ 2 _ rfl; (with_reducible repeat (first | refine blk_drewN ?_ _ | refine blk_drew ?_ | refine blk_alloc ?_ _)); refine blk_put (cs := #[.int .i64 0, .int .i64 0, .int .i64 0, .int .i64 0, .int .i64 0]) ?_ 1 _ rfl; (with_reducible repeat (first | refine blk_drewN ?_ _ | refine blk_drew ?_ | refine blk_alloc ?_ _)); refine blk_put (cs := #[.int .i64 0, .int .i64 0, .int .i64 0, .int .i64 0, .int .i64 0]) ?_ 0 _ rfl; (with_reducible repeat (first | refine blk_drewN ?_ _ | refine blk_drew ?_ | refine blk_alloc ?_ _)); exact BK460.out) Tryz.underlying23 rfl (by kernel_rfl)) rfl ?_
    exact ⟨by first | rfl | (simp [errW_none, errW_some] <;> rfl) | (simp [*, errW_none, errW_some] <;> rfl), by repeat (first | (with_reducible first | exact HB.out | apply below_alloc | apply pw_below_drewN | apply below_drew1 | refine below_set ?_ GE459.out | refine below_set ?_ GE460.out) | exact HB.out)⟩
def spoondriftref01_Sum.l0 : Nat → List (S23) → Int → Int → Int → Int → Int → Int → Int → Option (Int × Int × Int × Int × Int × Int)
  | 0, _, _, _, _, _, _, _, _ => none
  | k + 1, x0, x6, x7, x472000, x472001, x472002, x472003, x472004 => if x7 < (x0.length : Int) then (if x6 = 0 then (if 0 ≤ x7 then ((spoondriftref01_Add.f k x472000 x472001 x472002 x472003 x472004 ((rd_T23 x0 x7).f0) ((rd_T23 x0 x7).f1) ((rd_T23 x0 x7).f2) ((rd_T23 x0 x7).f3) ((rd_T23 x0 x7).f4)).bind fun bt473 => (spoondriftref01_Sum.l0 k x0 bt473.2.2.2.2.2 (wrap64 (x7 + 1)) bt473.1 bt473.2.1 bt473.2.2.1 bt473.2.2.2.1 bt473.2.2.2.2.1)) else (none)) else (some (x472000, x472001, x472002, x472003, x472004, x6))) else (some (x472000, x472001, x472002, x472003, x472004, x6))
def spoondriftref01_Sum.f (k : Nat) (l0 : List (S23)) : Option (Int × Int × Int × Int × Int × Int) := (spoondriftref01_Checks.f k l0).bind fun t470 => (if t470 = 0 then (spoondriftref01_Sum.l0 k l0 0 0 0 0 0 0 0) else (some (0, 0, 0, 0, 0, t470)))
theorem spoondriftref01_Sum.mono_l : ∀ k, (∀ y0 y1 y2 y3 y4 y5 y6 y7, LeO (spoondriftref01_Sum.l0 k y0 y1 y2 y3 y4 y5 y6 y7) (spoondriftref01_Sum.l0 (k + 1) y0 y1 y2 y3 y4 y5 y6 y7))
  | 0 => fun _ _ _ _ _ _ _ _ r h => by simp [spoondriftref01_Sum.l0] at h
  | k + 1 => by
    have ih0 := spoondriftref01_Sum.mono_l k
    · intro y0 y1 y2 y3 y4 y5 y6 y7
      unfold spoondriftref01_Sum.l0
      repeat' first
      | (with_reducible exact ih0 _ _ _ _ _ _ _ _)
      | (with_reducible exact spoondriftref01_Add.mono _ _ _ _ _ _ _ _ _ _ _)
      | (with_reducible exact spoondriftref01_Checks.mono _ _)
      | (with_reducible exact LeO.refl _)
      | (with_reducible exact LeO.none _)
      | (with_reducible refine LeO.ite ?_ ?_)
      | (with_reducible refine LeO.bind ?_ (fun _ => ?_))
      | exact ih0 _ _ _ _ _ _ _ _
      | exact spoondriftref01_Add.mono _ _ _ _ _ _ _ _ _ _ _
      | exact spoondriftref01_Checks.mono _ _
      | exact LeO.none _
      | refine LeO.ite ?_ ?_
      | refine LeO.bind ?_ (fun _ => ?_)
theorem spoondriftref01_Sum.mono : ∀ a0 k, LeO (spoondriftref01_Sum.f k a0) (spoondriftref01_Sum.f (k + 1) a0) := by
  intro a0 k
  have ih0 := spoondriftref01_Sum.mono_l k
  unfold spoondriftref01_Sum.f
  repeat' first
      | (with_reducible exact ih0 _ _ _ _ _ _ _ _)
      | (with_reducible exact spoondriftref01_Add.mono _ _ _ _ _ _ _ _ _ _ _)
      | (with_reducible exact spoondriftref01_Checks.mono _ _)
      | (with_reducible exact LeO.refl _)
      | (with_reducible exact LeO.none _)
      | (with_reducible refine LeO.ite ?_ ?_)
      | (with_reducible refine LeO.bind ?_ (fun _ => ?_))
      | exact ih0 _ _ _ _ _ _ _ _
      | exact spoondriftref01_Add.mono _ _ _ _ _ _ _ _ _ _ _
      | exact spoondriftref01_Checks.mono _ _
      | exact LeO.none _
      | refine LeO.ite ?_ ?_
      | refine LeO.bind ?_ (fun _ => ?_)
def spoondriftref01_Sum.T9 : Bool × List (List Nat × List Nat) := (true, [([], []), ([], []), ([], []), ([1, 2], [1, 2]), ([3], [3]), ([0, 4], [0, 4]), ([5], [5]), ([6], [6]), ([6], [6]), ([7, 5, 0, 1, 2, 3, 4, 5, 6, 7], [7]), ([8, 9, 0, 1, 2, 3, 4, 5, 6, 7, 8, 9], [8])])
def spoondriftref01_Sum.B9 : List Nat := [0, 0, 0, 6, 14, 31, 63, 127, 127, 255, 1023]
theorem spoondriftref01_Sum.tab9 : rtab .any (opsOf Tryz.f8 9) = spoondriftref01_Sum.T9 := by kernel_rfl
theorem spoondriftref01_Sum.bits9 : waitsOk spoondriftref01_Sum.T9.2 spoondriftref01_Sum.B9 = true := by kernel_rfl
set_option maxHeartbeats 8000000 in
set_option maxRecDepth 100000 in
theorem spoondriftref01_Sum.calls (k : Nat) (A0 : Option Addr) (c0 : Nat) (l0 : List (S23)) (r1 : Int) (r2 : Int) (r3 : Int) (r4 : Int) (r5 : Int) (r6 : Int) (w : World) (hr0 : Kd.C k23 w A0 l0.length l0) (hc0 : l0.length ≤ c0) (h : spoondriftref01_Sum.f k l0 = some (r1, r2, r3, r4, r5, r6)) :
    Calls Tryz.prog 8 #[.slice A0 l0.length c0] w fun e w' => e = .returned (.tuple #[.agg #[.int .i64 r1, .int .i64 r2, .int .i64 r3, .int .i64 r4, .int .i64 r5], .int .i64 r6]) ∧ Below w.heap.size w w' := by
  have hu23 := Tryz.underlying23
  have HR0 := Aside0.mk hr0
  have HC0 := Aside0.mk hc0
  clear hr0 hc0
  have HB := Aside0.mk (Below.refl w.heap.size w)
  have H : ((spoondriftref01_Checks.f k l0).bind fun t470 => (if t470 = 0 then (spoondriftref01_Sum.l0 k l0 0 0 0 0 0 0 0) else (some (0, 0, 0, 0, 0, t470)))) = some (r1, r2, r3, r4, r5, r6) := h
  clear h
  replace H := Option.bind_eq_some_iff.mp H
  obtain ⟨t470, A20, H⟩ := H
  replace H : (if t470 = 0 then (spoondriftref01_Sum.l0 k l0 0 0 0 0 0 0 0) else (some (0, 0, 0, 0, 0, t470))) = some (r1, r2, r3, r4, r5, r6) := H
  have A2 := Aside0.mk A20
  clear A20
  by_cases c3 : t470 = 0
  · rw [if_pos c3] at H
    have c3b0 : (t470 == 0) = true := beq_iff_eq.mpr c3
    have c3b1 : (t470 != 0) = false := bne_eq_false_iff_eq.mpr c3
    clear c3
    have H' := Aside0.mk H
    clear H
    go_enter Tryz.func8, Tryz.ntmps8
    go_wp2_with (first | ((with_reducible refine gate_dst (N := 2) rfl ?_); refine box_event ?hg (N := 2) ?hd (cs := #[.int .i64 0, .int .i64 0, .int .i64 0, .int .i64 0, .int .i64 0]) (t := 23) ?hr ?_; (case hd => rfl); (case hg => rfl); (case hr => first | (go_simp; done) | (go_simp; rfl)); intro gb469 hg w4 hbox hb; have n0_ := Aside0.mk (below_step (by repeat (first | (with_reducible first | exact HB.out | apply below_alloc | apply pw_below_drewN | apply below_drew1) | exact HB.out)) hb); have n1_ := Aside0.mk (hbox); have n2_ := Aside0.mk ((by rw [hg]; exact (below_size (by repeat (first | (with_reducible first | exact HB.out | apply below_alloc | apply pw_below_drewN | apply below_drew1) | exact HB.out))) : w.heap.size ≤ gb469)); have n3_ := Aside0.mk ((by rw [hg]; exact (below_size (by repeat (first | (with_reducible first | exact HB.out | apply below_alloc | apply pw_below_drewN | apply below_drew1) | exact HB.out))) : w.heap.size ≤ gb469)); clear HB; have HB := n0_; have BK469 := n1_; have GW469 := n2_; have GE469 := n3_; clear n0_ n1_ n2_ n3_; clear hb hbox hg) | ((with_reducible refine gate_callee (f := 29) rfl ?_); refine goesL_ (some 9) rfl rfl Tryz.func29 (by kernel_rfl) rfl #[.slice A0 l0.length c0] rfl (by (try simp only [List.map_toArray, List.map_cons, List.map_nil]); first | done | rfl | (simp only [List.length_drop, List.length_take]; rfl)) ?_; (with_reducible refine (spoondriftref01_Checks.calls k _ _ l0 t470 _ ?side1 ?side2 A2.out).mono ?_); (case side1 => repeat (first | exact (Kd.C_below HR0.out HB.out) | (with_reducible refine Kd.C_alloc ?_ _) | (with_reducible refine Kd.C_drewN ?_ _) | (with_reducible refine Kd.C_drew ?_))); (case side2 => exact HC0.out); rintro e w5 ⟨rfl, hb⟩; refine ⟨_, rfl, ?_⟩; have n0_ := Aside0.mk (blk_below (g := gb469) (o := .cells #[.int .i64 0, .int .i64 0, .int .i64 0, .int .i64 0, .int .i64 0] 23 (0, 0)) (by (with_reducible repeat (first | refine blk_drewN ?_ _ | refine blk_drew ?_ | refine blk_alloc ?_ _)); exact BK469.out) hb); have n1_ := Aside0.mk (below_step (by repeat (first | (with_reducible first | exact HB.out | apply below_alloc | apply pw_below_drewN | apply below_drew1 | refine below_set ?_ GE469.out) | exact HB.out)) hb); clear BK469; clear HB; have BK469 := n0_; have HB := n1_; clear n0_ n1_; (try clear hb); (try clear hb2); (try clear hk); (try clear hi)) | ((with_reducible refine gate_dst (N := 5) rfl ?_); refine box_event ?hg (N := 5) ?hd (cs := #[.int .i64 0, .int .i64 0, .int .i64 0, .int .i64 0, .int .i64 0]) (t := 23) ?hr ?_; (case hd => rfl); (case hg => rfl); (case hr => first | (go_simp; done) | (go_simp; rfl)); intro gb471 hg w6 hbox hb; have n0_ := Aside0.mk (blk_below (g := gb469) (o := .cells #[.int .i64 0, .int .i64 0, .int .i64 0, .int .i64 0, .int .i64 0] 23 (0, 0)) (by (with_reducible repeat (first | refine blk_drewN ?_ _ | refine blk_drew ?_ | refine blk_alloc ?_ _)); exact BK469.out) hb); have n1_ := Aside0.mk (below_step (by repeat (first | (with_reducible first | exact HB.out | apply below_alloc | apply pw_below_drewN | apply below_drew1 | refine below_set ?_ GE469.out) | exact HB.out)) hb); have n2_ := Aside0.mk (hbox); have n3_ := Aside0.mk ((by rw [hg]; exact (below_size (by repeat (first | (with_reducible first | exact HB.out | apply below_alloc | apply pw_below_drewN | apply below_drew1 | refine below_set ?_ GE469.out) | exact HB.out))) : w.heap.size ≤ gb471)); have n4_ := Aside0.mk ((by rw [hg]; exact (below_size (by repeat (first | (with_reducible first | exact HB.out | apply below_alloc | apply pw_below_drewN | apply below_drew1 | refine below_set ?_ GE469.out) | exact HB.out))) : w.heap.size ≤ gb471)); have n5_ := Aside0.mk ((by rw [hg]; exact Nat.ne_of_lt (blk_lt (g := gb469) (o := .cells #[.int .i64 0, .int .i64 0, .int .i64 0, .int .i64 0, .int .i64 0] 23 (0, 0)) (by (with_reducible repeat (first | refine blk_drewN ?_ _ | refine blk_drew ?_ | refine blk_alloc ?_ _)); exact BK469.out)) : gb469 ≠ gb471)); have n6_ := Aside0.mk ((by rw [hg]; exact Nat.ne_of_gt (blk_lt (g := gb469) (o := .cells #[.int .i64 0, .int .i64 0, .int .i64 0, .int .i64 0, .int .i64 0] 23 (0, 0)) (by (with_reducible repeat (first | refine blk_drewN ?_ _ | refine blk_drew ?_ | refine blk_alloc ?_ _)); exact BK469.out)) : gb471 ≠ gb469)); clear BK469; clear HB; have BK469 := n0_; have HB := n1_; have BK471 := n2_; have GW471 := n3_; have GE471 := n4_; have NB469_471 := n5_; have NB471_469 := n6_; clear n0_ n1_ n2_ n3_ n4_ n5_ n6_; clear hb hbox hg))
    (try simp only [Act.put, List.setIfInBounds_toArray, List.set_cons_zero, List.set_cons_succ])
    go_loopg [6, 7] k (fun kq v6 v7 w' => ∃ (x6_1 : Int) (x7_1 : Int) (x472000_1 : Int) (x472001_1 : Int) (x472002_1 : Int) (x472003_1 : Int) (x472004_1 : Int), v6 = .int .i64 x6_1 ∧ v7 = .int .i64 x7_1 ∧ Aside0 (spoondriftref01_Sum.l0 kq l0 x6_1 x7_1 x472000_1 x472001_1 x472002_1 x472003_1 x472004_1 = some (r1, r2, r3, r4, r5, r6)) ∧ Aside0 (kq ≤ k) ∧ Aside0 (w'.heap[gb469]? = some (.cells #[.int .i64 0, .int .i64 0, .int .i64 0, .int .i64 0, .int .i64 0] 23 (0, 0))) ∧ Aside0 (w'.heap[gb471]? = some (.cells #[.int .i64 x472000_1, .int .i64 x472001_1, .int .i64 x472002_1, .int .i64 x472003_1, .int .i64 x472004_1] 23 (0, 0))) ∧ Aside0 (Below w.heap.size w w'))
    case atStart => exact ⟨(0), (0), (0), (0), (0), (0), (0), (by first | rfl | (simp; done) | (simp [*]; done)), (by first | rfl | (simp; done) | (simp [*]; done)), H', ⟨Nat.le_refl _⟩, ⟨by (with_reducible repeat (first | refine blk_drewN ?_ _ | refine blk_drew ?_ | refine blk_alloc ?_ _)); exact BK469.out⟩, ⟨by (with_reducible repeat (first | refine blk_drewN ?_ _ | refine blk_drew ?_ | refine blk_alloc ?_ _)); exact BK471.out⟩, ⟨by repeat (first | (with_reducible first | exact HB.out | apply below_alloc | apply pw_below_drewN | apply below_drew1 | refine below_set ?_ GE469.out | refine below_set ?_ GE471.out) | exact HB.out)⟩⟩
    case round =>
      clear H'
      try clear c2
      try clear p2
      try clear c3
      try clear c3b0
      try clear c3b1
      obtain ⟨x6_1, x7_1, x472000_1, x472001_1, x472002_1, x472003_1, x472004_1, rfl, rfl, HA, HK1, BK469, BK471, HB⟩ := hrel
      cases gk with
      | zero => exact absurd HA.out (by simp [spoondriftref01_Sum.l0])
      | succ k1 =>
        have H := HA.out
        clear HA
        simp only [spoondriftref01_Sum.l0] at H
        by_cases c7 : x7_1 < (l0.length : Int)
        · rw [if_pos c7] at H
          have c7b0 : decide (x7_1 < (l0.length : Int)) = true := decide_eq_true c7
          clear c7
          by_cases c8 : x6_1 = 0
          · rw [if_pos c8] at H
            have c8b0 : (x6_1 == 0) = true := beq_iff_eq.mpr c8
            have c8b1 : (x6_1 != 0) = false := bne_eq_false_iff_eq.mpr c8
            clear c8
            by_cases c9 : 0 ≤ x7_1
            · rw [if_pos c9] at H
              have c9b0 : decide (0 ≤ x7_1) = true := decide_eq_true c9
              clear c9
              replace H := Option.bind_eq_some_iff.mp H
              obtain ⟨⟨t473, t474, t475, t476, t477, t478⟩, A100, H⟩ := H
              replace H : (spoondriftref01_Sum.l0 k1 l0 t478 (wrap64 (x7_1 + 1)) t473 t474 t475 t476 t477) = some (r1, r2, r3, r4, r5, r6) := H
              have A10 := Aside0.mk A100
              clear A100
              have H' := Aside0.mk H
              clear H
              try go_wp2
              have n0_ := Aside0.mk (blk_drew BK469.out)
              have n1_ := Aside0.mk (blk_drew BK471.out)
              have n2_ := Aside0.mk (below_drew1 HB.out)
              clear BK469
              clear BK471
              clear HB
              have BK469 := n0_
              have BK471 := n1_
              have HB := n2_
              clear n0_ n1_ n2_
              have p472 : 0 ≤ (x7_1 : Int) := of_decide_eq_true (by first | (with_reducible assumption) | assumption)
              have q472 : x7_1 < (l0.length : Int) := of_decide_eq_true (by first | (with_reducible assumption) | assumption)
              obtain ⟨ad472, e472, hx472_0, hx472_1, hx472_2, hx472_3, hx472_4⟩ := at_T23 HR0.out x7_1 p472 q472
              have hw472_4 := hx472_4
              have hw472_3 := hx472_3
              have hw472_2 := hx472_2
              have hw472_1 := hx472_1
              have hw472_0 := hx472_0
              cases e472
              replace hx472_0 := (HB.out.cell (World.block_lt_of_cell? w _ hx472_0)).trans hx472_0
              replace hx472_1 := (HB.out.cell (World.block_lt_of_cell? w _ hx472_1)).trans hx472_1
              replace hx472_2 := (HB.out.cell (World.block_lt_of_cell? w _ hx472_2)).trans hx472_2
              replace hx472_3 := (HB.out.cell (World.block_lt_of_cell? w _ hx472_3)).trans hx472_3
              replace hx472_4 := (HB.out.cell (World.block_lt_of_cell? w _ hx472_4)).trans hx472_4
              replace p472 := eq_true p472
              replace q472 := eq_true q472
              refine start_ (n := 11) (S := fun w' => w'.cell? ⟨gb471, 0, none⟩ = some (.int .i64 x472000_1) ∧ w'.cell? ⟨gb471, 1, none⟩ = some (.int .i64 x472001_1) ∧ w'.cell? ⟨gb471, 2, none⟩ = some (.int .i64 x472002_1) ∧ w'.cell? ⟨gb471, 3, none⟩ = some (.int .i64 x472003_1) ∧ w'.cell? ⟨gb471, 4, none⟩ = some (.int .i64 x472004_1) ∧ w'.cell? (ad472.add ((x7_1).toNat * 5)) = some (.int .i64 ((rd_T23 l0 x7_1).f0)) ∧ w'.cell? ⟨(ad472.add ((x7_1).toNat * 5)).block, (ad472.add ((x7_1).toNat * 5)).off + 1, none⟩ = some (.int .i64 ((rd_T23 l0 x7_1).f1)) ∧ w'.cell? ⟨(ad472.add ((x7_1).toNat * 5)).block, (ad472.add ((x7_1).toNat * 5)).off + 2, none⟩ = some (.int .i64 ((rd_T23 l0 x7_1).f2)) ∧ w'.cell? ⟨(ad472.add ((x7_1).toNat * 5)).block, (ad472.add ((x7_1).toNat * 5)).off + 3, none⟩ = some (.int .i64 ((rd_T23 l0 x7_1).f3)) ∧ w'.cell? ⟨(ad472.add ((x7_1).toNat * 5)).block, (ad472.add ((x7_1).toNat * 5)).off + 4, none⟩ = some (.int .i64 ((rd_T23 l0 x7_1).f4))) (ds := [9]) #[false, false, false, false, false, false, false, false, false, false, false] (by kernel_rfl) rfl rfl ⟨(blk_cell BK471.out 0).trans rfl, (blk_cell BK471.out 1).trans rfl, (blk_cell BK471.out 2).trans rfl, (blk_cell BK471.out 3).trans rfl, (blk_cell BK471.out 4).trans rfl, ((HB.out.cell (World.block_lt_of_cell? w _ hw472_0)).trans hw472_0), ((HB.out.cell (World.block_lt_of_cell? w _ hw472_1)).trans hw472_1), ((HB.out.cell (World.block_lt_of_cell? w _ hw472_2)).trans hw472_2), ((HB.out.cell (World.block_lt_of_cell? w _ hw472_3)).trans hw472_3), ((HB.out.cell (World.block_lt_of_cell? w _ hw472_4)).trans hw472_4)⟩ (fun hHeld => ?_); refine with_tabW spoondriftref01_Sum.tab9 spoondriftref01_Sum.bits9 (fun HT_ HW_ => ?_)
              generalize wr.drew = w11 at BK469 BK471 HB hx472_0 hx472_1 hx472_2 hx472_3 hx472_4 hHeld ⊢
              refine pure_ (i := 1) (N := some 26) (v := ?_) (a' := ?_) #[false, true, false, false, false, false, false, false, false, false, false] rfl rfl (any_of HT_.out (by kernel_rfl)) (fun _ _ _ h => h) (Or.inl ⟨by rfl, ?_⟩) ?_ ?_
              rotate_left
              · intro w'
                go_simp
                with_reducible rfl
              rotate_left
              · simp only [Act.put, List.setIfInBounds_toArray, List.set_cons_zero, List.set_cons_succ, i64_w, i32_w]
                rfl
              refine pure_ (i := 2) (N := some 27) (v := ?_) (a' := ?_) #[false, true, true, false, false, false, false, false, false, false, false] rfl rfl (any_of HT_.out (by kernel_rfl)) (fun _ _ _ h => h) (Or.inl ⟨by rfl, ?_⟩) ?_ ?_
              rotate_left
              · intro w'
                go_simp
                with_reducible rfl
              rotate_left
              · simp only [Act.put, List.setIfInBounds_toArray, List.set_cons_zero, List.set_cons_succ, i64_w, i32_w]
                rfl
              refine pure_ (i := 3) (N := some 28) (v := ?_) (a' := ?_) #[false, true, true, true, false, false, false, false, false, false, false] rfl rfl (any_of HT_.out (by kernel_rfl)) (fun _ _ _ h => h) (Or.inl ⟨by rfl, ?_⟩) ?_ ?_
              rotate_left
              · intro w'
                go_simp
                with_reducible rfl
              rotate_left
              · simp only [Act.put, List.setIfInBounds_toArray, List.set_cons_zero, List.set_cons_succ, i64_w, i32_w]
                rfl
              refine take_ (i := 0) (N := some 25) (v := ?_) (a' := ?_) #[true, true, true, true, false, false, false, false, false, false, false] rfl rfl (take_ofW HT_.out HW_.out (by kernel_rfl)) (fun _ _ _ h => h) (Or.inl ⟨by rfl, ?_⟩) hHeld ?_ ?_
              rotate_left
              · rintro w' ⟨s0, s1, s2, s3, s4, s5, s6, s7, s8, s9⟩
                go_simp
                with_reducible rfl
              rotate_left
              · simp only [Act.put, List.setIfInBounds_toArray, List.set_cons_zero, List.set_cons_succ, i64_w, i32_w]
                rfl
              refine take_ (i := 4) (N := some 29) (v := ?_) (a' := ?_) #[true, true, true, true, true, false, false, false, false, false, false] rfl rfl (take_ofW HT_.out HW_.out (by kernel_rfl)) (fun _ _ _ h => h) (Or.inl ⟨by rfl, ?_⟩) hHeld ?_ ?_
              rotate_left
              · rintro w' ⟨s0, s1, s2, s3, s4, s5, s6, s7, s8, s9⟩
                go_simp
                with_reducible rfl
              rotate_left
              · simp only [Act.put, List.setIfInBounds_toArray, List.set_cons_zero, List.set_cons_succ, i64_w, i32_w]
                rfl
              refine one_ (i := 5) (N := some 30) #[true, true, true, true, true, true, false, false, false, false, false] rfl rfl (one_of HT_.out (by kernel_rfl)) (by decide) (fun K hK => ?_)
              refine goes_ Tryz.func30 (by kernel_rfl) rfl #[.agg #[.int .i64 x472000_1, .int .i64 x472001_1, .int .i64 x472002_1, .int .i64 x472003_1, .int .i64 x472004_1], .agg #[.int .i64 ((rd_T23 l0 x7_1).f0), .int .i64 ((rd_T23 l0 x7_1).f1), .int .i64 ((rd_T23 l0 x7_1).f2), .int .i64 ((rd_T23 l0 x7_1).f3), .int .i64 ((rd_T23 l0 x7_1).f4)]] (by rfl) rfl rfl (by (try simp only [List.map_toArray, List.map_cons, List.map_nil]); first | done | rfl | (simp only [List.length_drop, List.length_take]; rfl)) ?_
              with_reducible refine (spoondriftref01_Add.calls k1 x472000_1 x472001_1 x472002_1 x472003_1 x472004_1 ((rd_T23 l0 x7_1).f0) ((rd_T23 l0 x7_1).f1) ((rd_T23 l0 x7_1).f2) ((rd_T23 l0 x7_1).f3) ((rd_T23 l0 x7_1).f4) t473 t474 t475 t476 t477 t478 _ A10.out).mono ?_
              rintro e w12 ⟨rfl, hb⟩
              refine ⟨_, rfl, ?_⟩
              have n0_ := Aside0.mk (blk_below (g := gb469) (o := .cells #[.int .i64 0, .int .i64 0, .int .i64 0, .int .i64 0, .int .i64 0] 23 (0, 0)) (by (with_reducible repeat (first | refine blk_drewN ?_ _ | refine blk_drew ?_ | refine blk_alloc ?_ _)); exact BK469.out) hb)
              have n1_ := Aside0.mk (blk_below (g := gb471) (o := .cells #[.int .i64 x472000_1, .int .i64 x472001_1, .int .i64 x472002_1, .int .i64 x472003_1, .int .i64 x472004_1] 23 (0, 0)) (by (with_reducible repeat (first | refine blk_drewN ?_ _ | refine blk_drew ?_ | refine blk_alloc ?_ _)); exact BK471.out) hb)
              have n2_ := Aside0.mk (below_step (by repeat (first | (with_reducible first | exact HB.out | apply below_alloc | apply pw_below_drewN | apply below_drew1 | refine below_set ?_ GE469.out | refine below_set ?_ GE471.out) | exact HB.out)) hb)
              clear BK469
              clear BK471
              clear HB
              have BK469 := n0_
              have BK471 := n1_
              have HB := n2_
              clear n0_ n1_ n2_
              (try clear hb)
              (try clear hb2)
              (try clear hk)
              (try clear hi)
              refine hK.out _ _ ⟨(blk_cell BK471.out 0).trans rfl, (blk_cell BK471.out 1).trans rfl, (blk_cell BK471.out 2).trans rfl, (blk_cell BK471.out 3).trans rfl, (blk_cell BK471.out 4).trans rfl, ((HB.out.cell (World.block_lt_of_cell? w _ hw472_0)).trans hw472_0), ((HB.out.cell (World.block_lt_of_cell? w _ hw472_1)).trans hw472_1), ((HB.out.cell (World.block_lt_of_cell? w _ hw472_2)).trans hw472_2), ((HB.out.cell (World.block_lt_of_cell? w _ hw472_3)).trans hw472_3), ((HB.out.cell (World.block_lt_of_cell? w _ hw472_4)).trans hw472_4)⟩ (fun hHeld => ?_)
              clear hK K
              refine norm_ (a' := ?_) ?_ ?_
              rotate_left
              · show Act.put _ (some 30) _ = _
                simp only [Act.put, List.setIfInBounds_toArray, List.set_cons_zero, List.set_cons_succ, i64_w, i32_w]
                rfl
              refine pure_ (i := 6) (N := some 24) (v := ?_) (a' := ?_) #[true, true, true, true, true, true, true, false, false, false, false] rfl rfl (any_of HT_.out (by kernel_rfl)) (fun _ _ _ h => h) (Or.inl ⟨by rfl, ?_⟩) ?_ ?_
              rotate_left
              · intro w'
                go_simp
                with_reducible rfl
              rotate_left
              · simp only [Act.put, List.setIfInBounds_toArray, List.set_cons_zero, List.set_cons_succ, i64_w, i32_w]
                rfl
              refine pure_ (i := 7) (N := some 31) (v := ?_) (a' := ?_) #[true, true, true, true, true, true, true, true, false, false, false] rfl rfl (any_of HT_.out (by kernel_rfl)) (fun _ _ _ h => h) (Or.inl ⟨by rfl, ?_⟩) ?_ ?_
              rotate_left
              · intro w'
                go_simp
                with_reducible rfl
              rotate_left
              · simp only [Act.put, List.setIfInBounds_toArray, List.set_cons_zero, List.set_cons_succ, i64_w, i32_w]
                rfl
              refine pure_ (i := 8) (N := some 32) (v := ?_) (a' := ?_) #[true, true, true, true, true, true, true, true, true, false, false] rfl rfl (any_of HT_.out (by kernel_rfl)) (fun _ _ _ h => h) (Or.inl ⟨by rfl, ?_⟩) ?_ ?_
              rotate_left
              · intro w'
                go_simp
                with_reducible rfl
              rotate_left
              · simp only [Act.put, List.setIfInBounds_toArray, List.set_cons_zero, List.set_cons_succ, i64_w, i32_w]
                rfl
              refine last_ (i := 9) (N := none) #[true, true, true, true, true, true, true, true, true, true, false] rfl rfl (one_of HT_.out (by kernel_rfl)) (by decide) (fun K hK => ?_)
              have hs13 : w12.cell? ⟨gb471, 0, none⟩ = some (.int .i64 x472000_1) := (blk_cell BK471.out 0).trans rfl
              have hfs13 := blk_frozen BK471.out 0
              have hns13_0 := NB469_471.out
              have hms13_0 := NB471_469.out
              have hs14 : w12.cell? ⟨gb471, 1, none⟩ = some (.int .i64 x472001_1) := (blk_cell BK471.out 1).trans rfl
              have hfs14 := blk_frozen BK471.out 1
              have hns14_0 := NB469_471.out
              have hms14_0 := NB471_469.out
              have hs15 : w12.cell? ⟨gb471, 2, none⟩ = some (.int .i64 x472002_1) := (blk_cell BK471.out 2).trans rfl
              have hfs15 := blk_frozen BK471.out 2
              have hns15_0 := NB469_471.out
              have hms15_0 := NB471_469.out
              have hs16 : w12.cell? ⟨gb471, 3, none⟩ = some (.int .i64 x472003_1) := (blk_cell BK471.out 3).trans rfl
              have hfs16 := blk_frozen BK471.out 3
              have hns16_0 := NB469_471.out
              have hms16_0 := NB471_469.out
              have hs17 : w12.cell? ⟨gb471, 4, none⟩ = some (.int .i64 x472004_1) := (blk_cell BK471.out 4).trans rfl
              have hfs17 := blk_frozen BK471.out 4
              have hns17_0 := NB469_471.out
              have hms17_0 := NB471_469.out
              refine skip_ (w1 := ?_) (by rfl) rfl ?_ ?_
              rotate_left
              · go_simp
                rfl
              refine hK.out _ _ ?_
              clear hK K
              refine pure_ (i := 10) (N := some 6) (v := ?_) (a' := ?_) #[true, true, true, true, true, true, true, true, true, true, true] rfl rfl (any_of HT_.out (by kernel_rfl)) (fun _ _ _ h => h) (Or.inl ⟨by rfl, ?_⟩) ?_ ?_
              rotate_left
              · intro w'
                go_simp
                with_reducible rfl
              rotate_left
              · simp only [Act.put, List.setIfInBounds_toArray, List.set_cons_zero, List.set_cons_succ, i64_w, i32_w]
                rfl
              refine done_ (done_of HT_.out (by kernel_rfl)) ?_
              try go_wp2
              go_roundg k1
              case measure => have := HK1.out; omega
              case rel => exact ⟨(t478), (wrap64 (x7_1 + 1)), (t473), (t474), (t475), (t476), (t477), (by first | rfl | (simp; done) | (simp [*]; done)), (by first | rfl | (simp; done) | (simp [*]; done)), H', ⟨by have := HK1.out; omega⟩, ⟨by (with_reducible repeat (first | refine blk_drewN ?_ _ | refine blk_drew ?_ | refine blk_alloc ?_ _)); refine blk_far ?_ NB469_471.out _; (with_reducible repeat (first | refine blk_drewN ?_ _ | refine blk_drew ?_ | refine blk_alloc ?_ _)); refine blk_far ?_ NB469_471.out _; (with_reducible repeat (first | refine blk_drewN ?_ _ | refine blk_drew ?_ | refine blk_alloc ?_ _)); refine blk_far ?_ NB469_471.out _; (with_reducible repeat (first | refine blk_drewN ?_ _ | refine blk_drew ?_ | refine blk_alloc ?_ _)); refine blk_far ?_ NB469_471.out _; (with_reducible repeat (first | refine blk_drewN ?_ _ | refine blk_drew ?_ | refine blk_alloc ?_ _)); refine blk_far ?_ NB469_471.out _; (with_reducible repeat (first | refine blk_drewN ?_ _ | refine blk_drew ?_ | refine blk_alloc ?_ _)); exact BK469.out⟩, ⟨by (with_reducible repeat (first | refine blk_drewN ?_ _ | refine blk_drew ?_ | refine blk_alloc ?_ _)); refine blk_put (cs := #[.int .i64 t473, .int .i64 t474, .int .i64 t475, .int .i64 t476, .int .i64 x472004_1]) ?_ 4 _ rfl; (with_reducible repeat (first | refine blk_drewN ?_ _ | refine blk_drew ?_ | refine blk_alloc ?_ _)); refine blk_put (cs := #[.int .i64 t473, .int .i64 t474, .int .i64 t475, .int .i64 x472003_1, .int .i64 x472004_1]) ?_ 3 _ rfl; (with_reducible repeat (first | refine blk_drewN ?_ _ | refine blk_drew ?_ | refine blk_alloc ?_ _)); refine blk_put (cs := #[.int .i64 t473, .int .i64 t474, .int .i64 x472002_1, .int .i64 x472003_1, .int .i64 x472004_1]) ?_ 2 _ rfl; (with_reducible repeat (first | refine blk_drewN ?_ _ | refine blk_drew ?_ | refine blk_alloc ?_ _)); refine blk_put (cs := #[.int .i64 t473, .int .i64 x472001_1, .int .i64 x472002_1, .int .i64 x472003_1, .int .i64 x472004_1]) ?_ 1 _ rfl; (with_reducible repeat (first | refine blk_drewN ?_ _ | refine blk_drew ?_ | refine blk_alloc ?_ _)); refine blk_put (cs := #[.int .i64 x472000_1, .int .i64 x472001_1, .int .i64 x472002_1, .int .i64 x472003_1, .int .i64 x472004_1]) ?_ 0 _ rfl; (with_reducible repeat (first | refine blk_drewN ?_ _ | refine blk_drew ?_ | refine blk_alloc ?_ _)); exact BK471.out⟩, ⟨by repeat (first | (with_reducible first | exact HB.out | apply below_alloc | apply pw_below_drewN | apply below_drew1 | refine below_set ?_ GE469.out | refine below_set ?_ GE471.out) | exact HB.out)⟩⟩
            · rw [if_neg c9] at H
              exact absurd H (by simp)
          · rw [if_neg c8] at H
            have c8b0 : (x6_1 == 0) = false := beq_eq_false_iff_ne.mpr c8
            have c8b1 : (x6_1 != 0) = true := bne_iff_ne.mpr c8
            simp only [Option.some.injEq, Prod.mk.injEq] at H
            obtain ⟨rfl, rfl, rfl, rfl, rfl, rfl⟩ := H
            have hnb18 := NB471_469.out
            have hnc18 := NB469_471.out
            have hcz19_0 : wr.cell? ⟨gb471, 0, none⟩ = some (.int .i64 x472000_1) := (blk_cell BK471.out 0).trans rfl
            have hcz19_1 : wr.cell? ⟨gb471, 1, none⟩ = some (.int .i64 x472001_1) := (blk_cell BK471.out 1).trans rfl
            have hcz19_2 : wr.cell? ⟨gb471, 2, none⟩ = some (.int .i64 x472002_1) := (blk_cell BK471.out 2).trans rfl
            have hcz19_3 : wr.cell? ⟨gb471, 3, none⟩ = some (.int .i64 x472003_1) := (blk_cell BK471.out 3).trans rfl
            have hcz19_4 : wr.cell? ⟨gb471, 4, none⟩ = some (.int .i64 x472004_1) := (blk_cell BK471.out 4).trans rfl
            have hfz19_0 := blk_frozen BK471.out 0
            have hfz19_1 := blk_frozen BK471.out 1
            have hfz19_2 := blk_frozen BK471.out 2
            have hfz19_3 := blk_frozen BK471.out 3
            have hfz19_4 := blk_frozen BK471.out 4
            have hcz20_0 : wr.cell? ⟨gb469, 0, none⟩ = some (.int .i64 0) := (blk_cell BK469.out 0).trans rfl
            have hcz20_1 : wr.cell? ⟨gb469, 1, none⟩ = some (.int .i64 0) := (blk_cell BK469.out 1).trans rfl
            have hcz20_2 : wr.cell? ⟨gb469, 2, none⟩ = some (.int .i64 0) := (blk_cell BK469.out 2).trans rfl
            have hcz20_3 : wr.cell? ⟨gb469, 3, none⟩ = some (.int .i64 0) := (blk_cell BK469.out 3).trans rfl
            have hcz20_4 : wr.cell? ⟨gb469, 4, none⟩ = some (.int .i64 0) := (blk_cell BK469.out 4).trans rfl
            have hfz20_0 := blk_frozen BK469.out 0
            have hfz20_1 := blk_frozen BK469.out 1
            have hfz20_2 := blk_frozen BK469.out 2
            have hfz20_3 := blk_frozen BK469.out 3
            have hfz20_4 := blk_frozen BK469.out 4
            go_wp2
            refine bodyPost_ret (results_ct rfl _ _ gb469 23 #[.int .i64 x472000_1, .int .i64 x472001_1, .int .i64 x472002_1, .int .i64 x472003_1, .int .i64 x472004_1] (0, 0) _ rfl (by (with_reducible repeat (first | refine blk_drewN ?_ _ | refine blk_drew ?_ | refine blk_alloc ?_ _)); refine blk_put (cs := #[.int .i64 x472000_1, .int .i64 x472001_1, .int .i64 x472002_1, .int .i64 x472003_1, .int .i64 0]) ?_ 4 _ rfl; (with_reducible repeat (first | refine blk_drewN ?_ _ | refine blk_drew ?_ | refine blk_alloc ?_ _)); refine blk_put (cs := #[.int .i64 x472000_1, .int .i64 x472001_1, .int .i64 x472002_1, .int .i64 0, .int .i64 0]) ?_ 3 _ rfl; (with_reducible repeat (first | refine blk_drewN ?_ _ | refine blk_drew ?_ | refine blk_alloc ?_ _)); refine blk_put (cs := #[.int .i64 x472000_1, .int .i64 x472001_1, .int .i64 0, .int .i64 0, .int .i64 0]) ?_ 2 _ rfl; (with_reducible repeat (first | refine blk_drewN ?_ _ | refine blk_drew ?_ | refine blk_alloc ?_ _)); refine blk_put (cs := #[.int .i64 x472000_1, .int .i64 0, .int .i64 0, .int .i64 0, .int .i64 0]) ?_ 1 _ rfl; (with_reducible repeat (first | refine blk_drewN ?_ _ | refine blk_drew ?_ | refine blk_alloc ?_ _)); refine blk_put (cs := #[.int .i64 0, .int .i64 0, .int .i64 0, .int .i64 0, .int .i64 0]) ?_ 0 _ rfl; (with_reducible repeat (first | refine blk_drewN ?_ _ | refine blk_drew ?_ | refine blk_alloc ?_ _)); exact BK469.out) Tryz.underlying23 rfl (by kernel_rfl)) rfl ?_
            exact ⟨by first | rfl | (simp [errW_none, errW_some] <;> rfl) | (simp [*, errW_none, errW_some] <;> rfl), by repeat (first | (with_reducible first | exact HB.out | apply below_alloc | apply pw_below_drewN | apply below_drew1 | refine below_set ?_ GE469.out | refine below_set ?_ GE471.out) | exact HB.out)⟩
        · rw [if_neg c7] at H
          have c7b0 : decide (x7_1 < (l0.length : Int)) = false := decide_eq_false c7
          clear c7
          simp only [Option.some.injEq, Prod.mk.injEq] at H
          obtain ⟨rfl, rfl, rfl, rfl, rfl, rfl⟩ := H
          have hnb21 := NB471_469.out
          have hnc21 := NB469_471.out
          have hcz22_0 : wr.cell? ⟨gb471, 0, none⟩ = some (.int .i64 x472000_1) := (blk_cell BK471.out 0).trans rfl
          have hcz22_1 : wr.cell? ⟨gb471, 1, none⟩ = some (.int .i64 x472001_1) := (blk_cell BK471.out 1).trans rfl
          have hcz22_2 : wr.cell? ⟨gb471, 2, none⟩ = some (.int .i64 x472002_1) := (blk_cell BK471.out 2).trans rfl
          have hcz22_3 : wr.cell? ⟨gb471, 3, none⟩ = some (.int .i64 x472003_1) := (blk_cell BK471.out 3).trans rfl
          have hcz22_4 : wr.cell? ⟨gb471, 4, none⟩ = some (.int .i64 x472004_1) := (blk_cell BK471.out 4).trans rfl
          have hfz22_0 := blk_frozen BK471.out 0
          have hfz22_1 := blk_frozen BK471.out 1
          have hfz22_2 := blk_frozen BK471.out 2
          have hfz22_3 := blk_frozen BK471.out 3
          have hfz22_4 := blk_frozen BK471.out 4
          have hcz23_0 : wr.cell? ⟨gb469, 0, none⟩ = some (.int .i64 0) := (blk_cell BK469.out 0).trans rfl
          have hcz23_1 : wr.cell? ⟨gb469, 1, none⟩ = some (.int .i64 0) := (blk_cell BK469.out 1).trans rfl
          have hcz23_2 : wr.cell? ⟨gb469, 2, none⟩ = some (.int .i64 0) := (blk_cell BK469.out 2).trans rfl
          have hcz23_3 : wr.cell? ⟨gb469, 3, none⟩ = some (.int .i64 0) := (blk_cell BK469.out 3).trans rfl
          have hcz23_4 : wr.cell? ⟨gb469, 4, none⟩ = some (.int .i64 0) := (blk_cell BK469.out 4).trans rfl
          have hfz23_0 := blk_frozen BK469.out 0
          have hfz23_1 := blk_frozen BK469.out 1
          have hfz23_2 := blk_frozen BK469.out 2
          have hfz23_3 := blk_frozen BK469.out 3
          have hfz23_4 := blk_frozen BK469.out 4
          go_wp2
          refine bodyPost_ret (results_ct rfl _ _ gb469 23 #[.int .i64 x472000_1, .int .i64 x472001_1, .int .i64 x472002_1, .int .i64 x472003_1, .int .i64 x472004_1] (0, 0) _ rfl (by (with_reducible repeat (first | refine blk_drewN ?_ _ | refine blk_drew ?_ | refine blk_alloc ?_ _)); refine blk_put (cs := #[.int .i64 x472000_1, .int .i64 x472001_1, .int .i64 x472002_1, .int .i64 x472003_1, .int .i64 0]) ?_ 4 _ rfl; (with_reducible repeat (first | refine blk_drewN ?_ _ | refine blk_drew ?_ | refine blk_alloc ?_ _)); refine blk_put (cs := #[.int .i64 x472000_1, .int .i64 x472001_1, .int .i64 x472002_1, .int .i64 0, .int .i64 0]) ?_ 3 _ rfl; (with_reducible repeat (first | refine blk_drewN ?_ _ | refine blk_drew ?_ | refine blk_alloc ?_ _)); refine blk_put (cs := #[.int .i64 x472000_1, .int .i64 x472001_1, .int .i64 0, .int .i64 0, .int .i64 0]) ?_ 2 _ rfl; (with_reducible repeat (first | refine blk_drewN ?_ _ | refine blk_drew ?_ | refine blk_alloc ?_ _)); refine blk_put (cs := #[.int .i64 x472000_1, .int .i64 0, .int .i64 0, .int .i64 0, .int .i64 0]) ?_ 1 _ rfl; (with_reducible repeat (first | refine blk_drewN ?_ _ | refine blk_drew ?_ | refine blk_alloc ?_ _)); refine blk_put (cs := #[.int .i64 0, .int .i64 0, .int .i64 0, .int .i64 0, .int .i64 0]) ?_ 0 _ rfl; (with_reducible repeat (first | refine blk_drewN ?_ _ | refine blk_drew ?_ | refine blk_alloc ?_ _)); exact BK469.out) Tryz.underlying23 rfl (by kernel_rfl)) rfl ?_
          exact ⟨by first | rfl | (simp [errW_none, errW_some] <;> rfl) | (simp [*, errW_none, errW_some] <;> rfl), by repeat (first | (with_reducible first | exact HB.out | apply below_alloc | apply pw_below_drewN | apply below_drew1 | refine below_set ?_ GE469.out | refine below_set ?_ GE471.out) | exact HB.out)⟩
  · rw [if_neg c3] at H
    have c3b0 : (t470 == 0) = false := beq_eq_false_iff_ne.mpr c3
    have c3b1 : (t470 != 0) = true := bne_iff_ne.mpr c3
    simp only [Option.some.injEq, Prod.mk.injEq] at H
    obtain ⟨rfl, rfl, rfl, rfl, rfl, rfl⟩ := H
    go_enter Tryz.func8, Tryz.ntmps8
    go_wp2_with (first | ((with_reducible refine gate_dst (N := 2) rfl ?_); refine box_event ?hg (N := 2) ?hd (cs := #[.int .i64 0, .int .i64 0, .int .i64 0, .int .i64 0, .int .i64 0]) (t := 23) ?hr ?_; (case hd => rfl); (case hg => rfl); (case hr => first | (go_simp; done) | (go_simp; rfl)); intro gb469 hg w24 hbox hb; have n0_ := Aside0.mk (below_step (by repeat (first | (with_reducible first | exact HB.out | apply below_alloc | apply pw_below_drewN | apply below_drew1) | exact HB.out)) hb); have n1_ := Aside0.mk (hbox); have n2_ := Aside0.mk ((by rw [hg]; exact (below_size (by repeat (first | (with_reducible first | exact HB.out | apply below_alloc | apply pw_below_drewN | apply below_drew1) | exact HB.out))) : w.heap.size ≤ gb469)); have n3_ := Aside0.mk ((by rw [hg]; exact (below_size (by repeat (first | (with_reducible first | exact HB.out | apply below_alloc | apply pw_below_drewN | apply below_drew1) | exact HB.out))) : w.heap.size ≤ gb469)); clear HB; have HB := n0_; have BK469 := n1_; have GW469 := n2_; have GE469 := n3_; clear n0_ n1_ n2_ n3_; clear hb hbox hg) | ((with_reducible refine gate_callee (f := 29) rfl ?_); refine goesL_ (some 9) rfl rfl Tryz.func29 (by kernel_rfl) rfl #[.slice A0 l0.length c0] rfl (by (try simp only [List.map_toArray, List.map_cons, List.map_nil]); first | done | rfl | (simp only [List.length_drop, List.length_take]; rfl)) ?_; (with_reducible refine (spoondriftref01_Checks.calls k _ _ l0 t470 _ ?side1 ?side2 A2.out).mono ?_); (case side1 => repeat (first | exact (Kd.C_below HR0.out HB.out) | (with_reducible refine Kd.C_alloc ?_ _) | (with_reducible refine Kd.C_drewN ?_ _) | (with_reducible refine Kd.C_drew ?_))); (case side2 => exact HC0.out); rintro e w25 ⟨rfl, hb⟩; refine ⟨_, rfl, ?_⟩; have n0_ := Aside0.mk (blk_below (g := gb469) (o := .cells #[.int .i64 0, .int .i64 0, .int .i64 0, .int .i64 0, .int .i64 0] 23 (0, 0)) (by (with_reducible repeat (first | refine blk_drewN ?_ _ | refine blk_drew ?_ | refine blk_alloc ?_ _)); exact BK469.out) hb); have n1_ := Aside0.mk (below_step (by repeat (first | (with_reducible first | exact HB.out | apply below_alloc | apply pw_below_drewN | apply below_drew1 | refine below_set ?_ GE469.out) | exact HB.out)) hb); clear BK469; clear HB; have BK469 := n0_; have HB := n1_; clear n0_ n1_; (try clear hb); (try clear hb2); (try clear hk); (try clear hi); have hcz26_0 : w25.cell? ⟨gb469, 0, none⟩ = some (.int .i64 0) := (blk_cell BK469.out 0).trans rfl; have hcz26_1 : w25.cell? ⟨gb469, 1, none⟩ = some (.int .i64 0) := (blk_cell BK469.out 1).trans rfl; have hcz26_2 : w25.cell? ⟨gb469, 2, none⟩ = some (.int .i64 0) := (blk_cell BK469.out 2).trans rfl; have hcz26_3 : w25.cell? ⟨gb469, 3, none⟩ = some (.int .i64 0) := (blk_cell BK469.out 3).trans rfl; have hcz26_4 : w25.cell? ⟨gb469, 4, none⟩ = some (.int .i64 0) := (blk_cell BK469.out 4).trans rfl; have hfz26_0 := blk_frozen BK469.out 0; have hfz26_1 := blk_frozen BK469.out 1; have hfz26_2 := blk_frozen BK469.out 2; have hfz26_3 := blk_frozen BK469.out 3; have hfz26_4 := blk_frozen BK469.out 4))
    refine bodyPost_ret (results_ct rfl _ _ gb469 23 #[.int .i64 0, .int .i64 0, .int .i64 0, .int .i64 0, .int .i64 0] (0, 0) _ rfl (by (with_reducible repeat (first | refine blk_drewN ?_ _ | refine blk_drew ?_ | refine blk_alloc ?_ _)); refine blk_put (cs := #[.int .i64 0, .int .i64 0, .int .i64 0, .int .i64 0, .int .i64 0]) ?_ 4 _ rfl; (with_reducible repeat (first | refine blk_drewN ?_ _ | refine blk_drew ?_ | refine blk_alloc ?_ _)); refine blk_put (cs := #[.int .i64 0, .int .i64 0, .int .i64 0, .int .i64 0, .int .i64 0]) ?_ 3 _ rfl; (with_reducible repeat (first | refine blk_drewN ?_ _ | refine blk_drew ?_ | refine blk_alloc ?_ _)); refine blk_put (cs := #[.int .i64 0, .int .i64 0, .int .i64 0, .int .i64 0, .int .i64 0]) ?_ 2 _ rfl; (with_reducible repeat (first | refine blk_drewN ?_ _ | refine blk_drew ?_ | refine blk_alloc ?_ _)); refine blk_put (cs := #[.int .i64 0, .int .i64 0, .int .i64 0, .int .i64 0, .int .i64 0]) ?_ 1 _ rfl; (with_reducible repeat (first | refine blk_drewN ?_ _ | refine blk_drew ?_ | refine blk_alloc ?_ _)); refine blk_put (cs := #[.int .i64 0, .int .i64 0, .int .i64 0, .int .i64 0, .int .i64 0]) ?_ 0 _ rfl; (with_reducible repeat (first | refine blk_drewN ?_ _ | refine blk_drew ?_ | refine blk_alloc ?_ _)); exact BK469.out) Tryz.underlying23 rfl (by kernel_rfl)) rfl ?_
    exact ⟨by first | rfl | (simp [errW_none, errW_some] <;> rfl) | (simp [*, errW_none, errW_some] <;> rfl), by repeat (first | (with_reducible first | exact HB.out | apply below_alloc | apply pw_below_drewN | apply below_drew1 | refine below_set ?_ GE469.out) | exact HB.out)⟩
end Go.Proofs.YtepdnjjfhbjcjaaGreatDoorPR
end
section
set_option linter.all false
namespace Go.Proofs.YtepdnjjfhbjcjaaGreatDoor
open Go.RowKit Go.Proofs.YtepdnjjfhbjcjaaGreatDoorPR Go.Proofs.YtepdnjjfhbjcjaaGreatDoor.Inj
theorem red_one (k : Nat) : Pt.red k Pt.one = (Pt.one, k) := Pt.red_of_fix (.inr (by decide))
theorem Root_eq (n : Nat) (hn : 61 ≤ n) (k : Int) : spoondriftref01_Root.f n k = some (flatN (sRoot k)) := by
  unfold spoondriftref01_Root.f sRoot
  by_cases h0 : k < 0
  · rw [if_pos h0, if_pos (.inl h0)]; rfl
  · by_cases h1 : 60 < k
    · rw [if_neg h0, if_pos h1, if_pos (.inr h1)]; rfl
    · rw [if_neg h0, if_neg h1, if_neg (by omega)]
      obtain ⟨K, rfl⟩ : ∃ K : Nat, k = K := ⟨k.toNat, by omega⟩
      have h := Form_eq n Pt.one K (by omega) (by omega) (by simp [Pt.le, Pt.one])
      rw [show spoondriftref01_Form.f n 1 0 0 0 (K : Int) = _ from h, red_one]
      rfl
theorem chks2 {u x : Nm} (hu : u.chk = 0) (hx : x.chk = 0) : chks [u, x] = 0 := by simp only [chks]; rw [hu, hx]; rfl
theorem sMul_lf {u x : Nm} (hu : u.chk = 0) (hx : x.chk = 0) : sMul u x = sMul u (lf x) := by
  unfold sMul
  rw [if_pos (chks2 hu hx), if_pos (chks2 hu (chk_lf hx))]
  congr 1
  obtain ⟨j, e1, e2⟩ := Pt.red_ex x.k.toNat x.p
  show Pt.red (u.k.toNat + x.k.toNat) (u.p.mul x.p) = Pt.red (u.k.toNat + ((Pt.red x.k.toNat x.p).2 : Int).toNat) (u.p.mul (Pt.red x.k.toNat x.p).1)
  generalize Pt.red x.k.toNat x.p = r at *
  rw [Pt.red_eq, e1, Pt.mul_tw, ← Pt.tw_add, e2, Int.toNat_natCast]
  congr 1
  omega
theorem sMul_zero_err {u x : Nm} {y : Nm} {e : Int} (h : sMul u x = (y, e)) (he : e ≠ 0) : y = Nm.zero := by
  unfold sMul at h
  by_cases h0 : chks [u, x] = 0
  · rw [if_pos h0] at h
    unfold okN at h
    by_cases h1 : lstOk (Pt.red (u.k.toNat + x.k.toNat) (u.p.mul x.p)) = true
    · rw [if_pos h1] at h; exact absurd (congrArg Prod.snd h).symm he
    · rw [if_neg h1] at h; exact (congrArg Prod.fst h).symm
  · rw [if_neg h0] at h; exact (congrArg Prod.fst h).symm
theorem sMul_chk {u x y : Nm} (h : sMul u x = (y, 0)) : y.chk = 0 := by
  unfold sMul at h
  by_cases h0 : chks [u, x] = 0
  · rw [if_pos h0] at h; exact okN_ok h
  · rw [if_neg h0] at h; exact absurd (congrArg Prod.snd h) h0
def rpN (x : Nm) : Nat → Nm × Int
  | 0 => (⟨Pt.one, 0⟩, 0)
  | j + 1 => if (rpN x j).2 = 0 then sMul (rpN x j).1 x else rpN x j
theorem rp_pow {x : Nm} (hx : x.chk = 0) (i : Nat) : rpN x (i + 1) = powN (lf x) i ∧ ((powN (lf x) i).2 = 0 → (powN (lf x) i).1.chk = 0) ∧ ((powN (lf x) i).2 ≠ 0 → (powN (lf x) i).1 = Nm.zero) := by
  induction i with
  | zero =>
    have h1 : sMul ⟨Pt.one, 0⟩ x = (lf x, 0) := by
      unfold sMul
      have h0 : (⟨Pt.one, 0⟩ : Nm).chk = 0 := by decide
      rw [if_pos (chks2 h0 hx)]
      show okN (Pt.red (0 + x.k.toNat) (Pt.one.mul x.p)) = _
      rw [Nat.zero_add, Pt.one_mul]
      exact okN_red hx
    refine ⟨by show (if (0 : Int) = 0 then sMul ⟨Pt.one, 0⟩ x else _) = _; rw [if_pos rfl, h1]; rfl, fun _ => chk_lf hx, fun h => absurd rfl h⟩
  | succ i ih =>
    obtain ⟨e, hok, hz⟩ := ih
    show (if (rpN x (i + 1)).2 = 0 then sMul (rpN x (i + 1)).1 x else rpN x (i + 1)) = (if (powN (lf x) i).2 = 0 then sMul (powN (lf x) i).1 (lf x) else (Nm.zero, (powN (lf x) i).2)) ∧ ((if (powN (lf x) i).2 = 0 then sMul (powN (lf x) i).1 (lf x) else (Nm.zero, (powN (lf x) i).2)).2 = 0 → (if (powN (lf x) i).2 = 0 then sMul (powN (lf x) i).1 (lf x) else (Nm.zero, (powN (lf x) i).2)).1.chk = 0) ∧ ((if (powN (lf x) i).2 = 0 then sMul (powN (lf x) i).1 (lf x) else (Nm.zero, (powN (lf x) i).2)).2 ≠ 0 → (if (powN (lf x) i).2 = 0 then sMul (powN (lf x) i).1 (lf x) else (Nm.zero, (powN (lf x) i).2)).1 = Nm.zero)
    rw [e]
    by_cases h0 : (powN (lf x) i).2 = 0
    · rw [if_pos h0, if_pos h0]
      refine ⟨sMul_lf (hok h0) hx, fun h => ?_, fun h => ?_⟩
      · exact sMul_chk (Prod.ext rfl h : sMul (powN (lf x) i).1 (lf x) = ((sMul (powN (lf x) i).1 (lf x)).1, 0))
      · exact sMul_zero_err (Prod.ext rfl rfl : sMul (powN (lf x) i).1 (lf x) = ((sMul (powN (lf x) i).1 (lf x)).1, (sMul (powN (lf x) i).1 (lf x)).2)) h
    · rw [if_neg h0, if_neg h0]
      refine ⟨Prod.ext (hz h0) rfl, fun h => absurd h h0, fun _ => rfl⟩
theorem Power_l0_eq (x : Nm) (m : Nat) : ∀ (j n i : Nat), i + j = m → 310 + j ≤ n → m ≤ 64 →
    spoondriftref01_Power.l0 n m (rpN x i).2 i x.p.a x.p.b x.p.c x.p.d x.k (rpN x i).1.p.a (rpN x i).1.p.b (rpN x i).1.p.c (rpN x i).1.p.d (rpN x i).1.k = some (flatN (rpN x m)) := by
  intro j
  induction j with
  | zero =>
    intro n i hi hn hm
    obtain ⟨n, rfl⟩ : ∃ q, n = q + 1 := ⟨n - 1, by omega⟩
    obtain rfl : i = m := by omega
    simp only [spoondriftref01_Power.l0]
    rw [if_neg (by omega)]
    rfl
  | succ j ih =>
    intro n i hi hn hm
    obtain ⟨n, rfl⟩ : ∃ q, n = q + 1 := ⟨n - 1, by omega⟩
    simp only [spoondriftref01_Power.l0]
    rw [if_pos (by omega)]
    by_cases h0 : (rpN x i).2 = 0
    · rw [if_pos h0, Mul_eq n (by omega) (rpN x i).1 x]
      simp only [Option.bind_some]
      have h := ih n (i + 1) (by omega) (by omega) hm
      have e : rpN x (i + 1) = sMul (rpN x i).1 x := by show (if (rpN x i).2 = 0 then _ else _) = _; rw [if_pos h0]
      rw [e] at h
      rw [wr (x := (i : Int) + 1) (by omega)]
      exact h
    · rw [if_neg h0]
      have hs : ∀ d, rpN x (i + d) = rpN x i := fun d => by
        induction d with
        | zero => rfl
        | succ d ihd =>
          have e : rpN x (i + (d + 1)) = if (rpN x (i + d)).2 = 0 then sMul (rpN x (i + d)).1 x else rpN x (i + d) := rfl
          rw [e, ihd, if_neg h0]
      rw [← hi, hs]
      rfl
theorem Power_eq (n : Nat) (hn : 400 ≤ n) (x : Nm) (m : Int) : spoondriftref01_Power.f n x.p.a x.p.b x.p.c x.p.d x.k m = some (flatN (sPower x m)) := by
  obtain ⟨n, rfl⟩ : ∃ q, n = q + 1 := ⟨n - 1, by omega⟩
  unfold spoondriftref01_Power.f sPower
  rw [show spoondriftref01_Check.f (n + 1) x.p.a x.p.b x.p.c x.p.d x.k = some x.chk from Check_eq _ (by omega) _ _ _ _ _]
  simp only [Option.bind_some]
  by_cases hx : x.chk = 0
  · rw [if_pos hx, sLeast_ok hx, if_pos rfl]
    by_cases h0 : m < 0
    · rw [if_pos h0, if_pos (.inl h0)]; rfl
    · by_cases h1 : 64 < m
      · rw [if_neg h0, if_pos (.inr h1)]
        show (if decide (m > 64) = true then _ else _) = _
        rw [if_pos (by simpa using h1)]; rfl
      · rw [if_neg h0, if_neg (by omega)]
        obtain ⟨M, rfl⟩ : ∃ M : Nat, m = M := ⟨m.toNat, by omega⟩
        show (if decide ((M : Int) > 64) = true then _ else _) = _
        rw [if_neg (by simpa using h1)]
        have h := Power_l0_eq x M M n 0 (by omega) (by omega) (by omega)
        refine Eq.trans h ?_
        by_cases h2 : (M : Int) = 0
        · rw [if_pos h2]
          obtain rfl : M = 0 := by omega
          rfl
        · rw [if_neg h2]
          obtain ⟨i, rfl⟩ : ∃ i, M = i + 1 := ⟨M - 1, by omega⟩
          rw [(rp_pow hx i).1, show (((i + 1 : Nat) : Int) - 1).toNat = i by omega]
          rfl
  · rw [if_neg hx, sLeast_not hx, if_neg hx]; rfl
theorem sAdd_zero_err {u x : Nm} {y : Nm} {e : Int} (h : sAdd u x = (y, e)) (he : e ≠ 0) : y = Nm.zero := by
  unfold sAdd at h
  by_cases h0 : chks [u, x] = 0
  · rw [if_pos h0] at h
    unfold okN at h
    by_cases h1 : lstOk (Pt.red (max u.k.toNat x.k.toNat) (plusP u x)) = true
    · rw [if_pos h1] at h; exact absurd (congrArg Prod.snd h).symm he
    · rw [if_neg h1] at h; exact (congrArg Prod.fst h).symm
  · rw [if_neg h0] at h; exact (congrArg Prod.fst h).symm
theorem Sum_l0_eq (l : List Nm) : ∀ (j n i : Nat) (o : Nm), i + j = l.length → 310 + j ≤ n → l.length ≤ 1000 →
    spoondriftref01_Sum.l0 n (l.map s23) 0 i o.p.a o.p.b o.p.c o.p.d o.k = some (flatN (sumN o (l.drop i))) := by
  intro j
  induction j with
  | zero =>
    intro n i o hi hn hl
    obtain ⟨n, rfl⟩ : ∃ q, n = q + 1 := ⟨n - 1, by omega⟩
    simp only [spoondriftref01_Sum.l0, List.length_map]
    rw [if_neg (by omega), List.drop_of_length_le (by omega)]
    rfl
  | succ j ih =>
    intro n i o hi hn hl
    obtain ⟨n, rfl⟩ : ∃ q, n = q + 1 := ⟨n - 1, by omega⟩
    have hlt : i < l.length := by omega
    have hr : rd_T23 (l.map s23) (i : Int) = s23 l[i] := by
      unfold rd_T23
      rw [List.getD_eq_getElem?_getD, List.getElem?_map, Int.toNat_natCast, List.getElem?_eq_getElem hlt]
      rfl
    simp only [spoondriftref01_Sum.l0, List.length_map]
    rw [if_pos (by omega), if_pos trivial, if_pos (by omega), hr]
    rw [show spoondriftref01_Add.f n o.p.a o.p.b o.p.c o.p.d o.k (s23 l[i]).f0 (s23 l[i]).f1 (s23 l[i]).f2 (s23 l[i]).f3 (s23 l[i]).f4 = _ from Add_eq n (by omega) o l[i]]
    simp only [Option.bind_some]
    rw [wr (x := (i : Int) + 1) (by omega), List.drop_eq_getElem_cons hlt]
    simp only [sumN]
    by_cases h0 : (sAdd o l[i]).2 = 0
    · rw [if_pos h0]
      have h := ih n (i + 1) (sAdd o l[i]).1 (by omega) (by omega) hl
      show spoondriftref01_Sum.l0 n (l.map s23) (sAdd o l[i]).2 _ _ _ _ _ _ = _
      rw [h0]
      exact h
    · rw [if_neg h0]
      have hz := sAdd_zero_err (Prod.ext rfl rfl : sAdd o l[i] = ((sAdd o l[i]).1, (sAdd o l[i]).2)) h0
      obtain ⟨n, rfl⟩ : ∃ q, n = q + 1 := ⟨n - 1, by omega⟩
      show spoondriftref01_Sum.l0 (n + 1) (l.map s23) (sAdd o l[i]).2 _ (sAdd o l[i]).1.p.a (sAdd o l[i]).1.p.b (sAdd o l[i]).1.p.c (sAdd o l[i]).1.p.d (sAdd o l[i]).1.k = _
      rw [hz]
      simp only [spoondriftref01_Sum.l0, List.length_map]
      split
      · first | rfl | (rw [if_neg h0]; rfl)
      · rfl
theorem Sum_eq (n : Nat) (l : List Nm) (hn : 320 + l.length ≤ n) (hl : l.length ≤ 1000) : spoondriftref01_Sum.f n (l.map s23) = some (flatN (sSum l)) := by
  unfold spoondriftref01_Sum.f sSum
  rw [Checks_eq n l (by omega) (by omega)]
  simp only [Option.bind_some]
  by_cases h0 : chks l = 0
  · rw [if_pos h0, if_pos h0]
    exact Sum_l0_eq l l.length n 0 Nm.zero (by omega) (by omega) hl
  · rw [if_neg h0, if_neg h0]; rfl
theorem Omega_any (n : Nat) (hn : 12 ≤ n) (a : Int) (i : Fin 8) (h : (a % 8).toNat = i.val) : spoondriftref01_Omega.f n a = some ((omP i.val).a, (omP i.val).b, (omP i.val).c, (omP i.val).d, 0) := by
  rw [← Omega_eq n hn i]
  have hi := i.isLt
  have e0 : Int.tmod (wrap64 ((Int.tmod (i.val : Int) 8) + 8)) 8 = (i.val : Int) := by
    rw [Int.tmod_eq_emod_of_nonneg (a := (i.val : Int)) (by omega), wr (by omega), Int.tmod_eq_emod_of_nonneg (by omega)]
    omega
  have e1 : Int.tmod (wrap64 ((Int.tmod a 8) + 8)) 8 = (i.val : Int) := by
    obtain ⟨r, e1, r0, r1⟩ : ∃ r, Int.tmod a 8 = r ∧ -8 < r ∧ r < 8 := by
      refine ⟨_, rfl, ?_⟩
      rcases Int.le_total 0 a with h0 | h0
      · rw [Int.tmod_eq_emod_of_nonneg h0]; omega
      · obtain ⟨m, rfl⟩ : ∃ m, a = -m := ⟨-a, by omega⟩
        rw [Int.neg_tmod, Int.tmod_eq_emod_of_nonneg (by omega)]; omega
    have := Int.mul_tdiv_add_tmod a 8
    rw [e1, wr (by omega), Int.tmod_eq_emod_of_nonneg (by omega)]
    omega
  have key : ∀ (q : Nat) (c u v w z t : Int), spoondriftref01_Omega.l0 q a c u v w z t = spoondriftref01_Omega.l0 q (i.val : Int) c u v w z t := by
    intro q
    induction q with
    | zero => intros; rfl
    | succ q ih =>
      intro c u v w z t
      simp only [spoondriftref01_Omega.l0]
      rw [e0, e1, ih]
  exact key n 0 1 0 0 0 0
theorem s23_n23 (l : List S23) : (l.map n23).map s23 = l := by
  rw [List.map_map]
  have e : (s23 ∘ n23) = id := rfl
  rw [e, List.map_id]
end Go.Proofs.YtepdnjjfhbjcjaaGreatDoor
end
section
set_option linter.all false
namespace Go.Proofs.YtepdnjjfhbjcjaaGreatDoor
open Go.RowKit Go.Proofs.YtepdnjjfhbjcjaaGreatDoorPR Go.Proofs.YtepdnjjfhbjcjaaGreatDoor.Inj Go.Proofs.YtepdnjjfhbjcjaaGreatDoorW.PrintWords Go.Proofs.YtepdnjjfhbjcjaaGreatDoorW.PrintLast Go.Proofs.YtepdnjjfhbjcjaaGreatDoorW.PrintMore
theorem RingPowers_ok (x : Nm) (a n : Int) (A : Option Addr) (c : Nat) (l : List S23) (w : World) (hK : Kd.C k23 w A l.length l) (hc : l.length ≤ c) (ht : Tabs w) :
    Calls Tryz.prog 3 #[.agg #[.int .i64 x.p.a, .int .i64 x.p.b, .int .i64 x.p.c, .int .i64 x.p.d, .int .i64 x.k], .int .i64 a, .int .i64 n, .slice A l.length c] w fun e w' => e = .returned (.bool true) ∧ Below w.heap.size w w' := by
  obtain ⟨f, hf⟩ : ∃ f : Fin 8, (a % 8).toNat = f.val := ⟨⟨(a % 8).toNat, by omega⟩, rfl⟩
  refine powers_walk x a n A c l (sRoot n).1.p.a (sRoot n).1.p.b (sRoot n).1.p.c (sRoot n).1.p.d (sRoot n).1.k (sRoot n).2 (sPower x a).1.p.a (sPower x a).1.p.b (sPower x a).1.p.c (sPower x a).1.p.d (sPower x a).1.k (sPower x a).2 (sSum (l.map n23)).1.p.a (sSum (l.map n23)).1.p.b (sSum (l.map n23)).1.p.c (sSum (l.map n23)).1.p.d (sSum (l.map n23)).1.k (sSum (l.map n23)).2 (omP f.val).a (omP f.val).b (omP f.val).c (omP f.val).d 0 ?_ ?_ ?_ ?_ ?_ ?_ ?_ ?_ w hK hc ht
  · exact fun W => spoondriftref01_Root.calls 500 n _ _ _ _ _ _ W (Root_eq 500 (by omega) n)
  · exact fun W => ring_Root.calls n _ _ _ _ _ _ W rfl
  · exact fun W => spoondriftref01_Power.calls 500 _ _ _ _ _ a _ _ _ _ _ _ W (Power_eq 500 (by omega) x a)
  · exact fun W => ring_Power.calls _ _ _ _ _ a _ _ _ _ _ _ W rfl
  · intro W A c h1 h2 h3
    refine spoondriftref01_Sum.calls 500 A c l _ _ _ _ _ _ W h1 h2 ?_
    have h := Sum_eq 500 (l.map n23) (by simp; omega) (by simp; omega)
    rw [s23_n23] at h
    exact h
  · exact fun W A c h1 h2 h3 => ring_Sum.calls A c l _ _ _ _ _ _ W h1 h2 (if_pos (by omega))
  · exact fun W => spoondriftref01_Omega.calls 500 a _ _ _ _ _ W (Omega_any 500 (by omega) a f hf)
  · exact fun W => ring_Omega.calls a _ _ _ _ _ W (by unfold ring_Omega.f; rw [hf])
end Go.Proofs.YtepdnjjfhbjcjaaGreatDoor
end
