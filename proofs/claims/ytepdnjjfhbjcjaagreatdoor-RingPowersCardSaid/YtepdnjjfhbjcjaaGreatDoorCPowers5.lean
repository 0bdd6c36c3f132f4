import Derived.Test.YtepdnjjfhbjcjaaGreatDoorCPowers0
import Derived.Test.YtepdnjjfhbjcjaaGreatDoorCPowers2
import Derived.Test.YtepdnjjfhbjcjaaGreatDoorCPowers3
import Derived.Test.YtepdnjjfhbjcjaaGreatDoorCPowers4
set_option linter.all false
section
namespace Go.Proofs.YtepdnjjfhbjcjaaGreatDoorPR
open Go.RowKit Go.Proofs.YtepdnjjfhbjcjaaGreatDoor.Inj Go.Proofs.YtepdnjjfhbjcjaaGreatDoorW.PrintWords Go.Proofs.YtepdnjjfhbjcjaaGreatDoorW.PrintLast Go.Proofs.YtepdnjjfhbjcjaaGreatDoorW.PrintMore
attribute [local go_sem] max2_int min2_int max_two min_two max_three min_three max_four min_four
set_option linter.unusedVariables false
set_option linter.unusedSimpArgs false
mutual
def spoondriftref01_Add.l0 : Nat → Int → Int → Int → Int → Int → Int → Int → Int → Int → Int → Option (Int × Int × Int × Int × Int × Int)
  | 0, _, _, _, _, _, _, _, _, _, _ => none
  | k + 1, x277000, x277001, x277002, x277003, x277004, x278000, x278001, x278002, x278003, x278004 => if x277004 < x278004 then ((spoondriftref01_times.f x277000 x277001 x277002 x277003 x277004).bind fun bt293 => (spoondriftref01_Add.l0 k bt293.1 bt293.2.1 bt293.2.2.1 bt293.2.2.2.1 (wrap64 (bt293.2.2.2.2 + 1)) x278000 x278001 x278002 x278003 x278004)) else (spoondriftref01_Add.l1 k x277000 x277001 x277002 x277003 x277004 x278000 x278001 x278002 x278003 x278004)
def spoondriftref01_Add.l1 : Nat → Int → Int → Int → Int → Int → Int → Int → Int → Int → Int → Option (Int × Int × Int × Int × Int × Int)
  | 0, _, _, _, _, _, _, _, _, _, _ => none
  | k + 1, x277000, x277001, x277002, x277003, x277004, x278000, x278001, x278002, x278003, x278004 => if x278004 < x277004 then ((spoondriftref01_times.f x278000 x278001 x278002 x278003 x278004).bind fun bt298 => (spoondriftref01_Add.l1 k x277000 x277001 x277002 x277003 x277004 bt298.1 bt298.2.1 bt298.2.2.1 bt298.2.2.2.1 (wrap64 (bt298.2.2.2.2 + 1)))) else ((spoondriftref01_fits.f k (wrap64 (x277000 + x278000)) (wrap64 (x277001 + x278001)) (wrap64 (x277002 + x278002)) (wrap64 (x277003 + x278003)) x277004).bind fun bt303 => (some (bt303.1, bt303.2.1, bt303.2.2.1, bt303.2.2.2.1, bt303.2.2.2.2.1, bt303.2.2.2.2.2)))
end
def spoondriftref01_Add.f (k : Nat) (a0_0 : Int) (a0_1 : Int) (a0_2 : Int) (a0_3 : Int) (a0_4 : Int) (a1_0 : Int) (a1_1 : Int) (a1_2 : Int) (a1_3 : Int) (a1_4 : Int) : Option (Int × Int × Int × Int × Int × Int) := (spoondriftref01_Checks.f k (([(⟨a0_0, a0_1, a0_2, a0_3, a0_4⟩ : S23), (⟨a1_0, a1_1, a1_2, a1_3, a1_4⟩ : S23)] : List (S23)))).bind fun t282 => (if t282 = 0 then ((spoondriftref01_Form.f k a0_0 a0_1 a0_2 a0_3 a0_4).bind fun bt283 => ((spoondriftref01_Form.f k a1_0 a1_1 a1_2 a1_3 a1_4).bind fun bt288 => (spoondriftref01_Add.l0 k bt283.1 bt283.2.1 bt283.2.2.1 bt283.2.2.2.1 bt283.2.2.2.2 bt288.1 bt288.2.1 bt288.2.2.1 bt288.2.2.2.1 bt288.2.2.2.2))) else (some (0, 0, 0, 0, 0, t282)))
theorem spoondriftref01_Add.mono_l : ∀ k, (∀ y0 y1 y2 y3 y4 y5 y6 y7 y8 y9, LeO (spoondriftref01_Add.l0 k y0 y1 y2 y3 y4 y5 y6 y7 y8 y9) (spoondriftref01_Add.l0 (k + 1) y0 y1 y2 y3 y4 y5 y6 y7 y8 y9)) ∧ (∀ y0 y1 y2 y3 y4 y5 y6 y7 y8 y9, LeO (spoondriftref01_Add.l1 k y0 y1 y2 y3 y4 y5 y6 y7 y8 y9) (spoondriftref01_Add.l1 (k + 1) y0 y1 y2 y3 y4 y5 y6 y7 y8 y9))
  | 0 => ⟨fun _ _ _ _ _ _ _ _ _ _ r h => by simp [spoondriftref01_Add.l0] at h, fun _ _ _ _ _ _ _ _ _ _ r h => by simp [spoondriftref01_Add.l1] at h⟩
  | k + 1 => by
    obtain ⟨ih0, ih1⟩ := spoondriftref01_Add.mono_l k
    refine ⟨?_, ?_⟩
    · intro y0 y1 y2 y3 y4 y5 y6 y7 y8 y9
      unfold spoondriftref01_Add.l0
      repeat' first
      | (with_reducible exact ih0 _ _ _ _ _ _ _ _ _ _)
      | (with_reducible exact ih1 _ _ _ _ _ _ _ _ _ _)
      | (with_reducible exact spoondriftref01_Checks.mono _ _)
      | (with_reducible exact spoondriftref01_Form.mono _ _ _ _ _ _)
      | (with_reducible exact spoondriftref01_fits.mono _ _ _ _ _ _)
      | (with_reducible exact LeO.refl _)
      | (with_reducible exact LeO.none _)
      | (with_reducible refine LeO.ite ?_ ?_)
      | (with_reducible refine LeO.bind ?_ (fun _ => ?_))
      | exact ih0 _ _ _ _ _ _ _ _ _ _
      | exact ih1 _ _ _ _ _ _ _ _ _ _
      | exact spoondriftref01_Checks.mono _ _
      | exact spoondriftref01_Form.mono _ _ _ _ _ _
      | exact spoondriftref01_fits.mono _ _ _ _ _ _
      | exact LeO.none _
      | refine LeO.ite ?_ ?_
      | refine LeO.bind ?_ (fun _ => ?_)
    · intro y0 y1 y2 y3 y4 y5 y6 y7 y8 y9
      unfold spoondriftref01_Add.l1
      repeat' first
      | (with_reducible exact ih0 _ _ _ _ _ _ _ _ _ _)
      | (with_reducible exact ih1 _ _ _ _ _ _ _ _ _ _)
      | (with_reducible exact spoondriftref01_Checks.mono _ _)
      | (with_reducible exact spoondriftref01_Form.mono _ _ _ _ _ _)
      | (with_reducible exact spoondriftref01_fits.mono _ _ _ _ _ _)
      | (with_reducible exact LeO.refl _)
      | (with_reducible exact LeO.none _)
      | (with_reducible refine LeO.ite ?_ ?_)
      | (with_reducible refine LeO.bind ?_ (fun _ => ?_))
      | exact ih0 _ _ _ _ _ _ _ _ _ _
      | exact ih1 _ _ _ _ _ _ _ _ _ _
      | exact spoondriftref01_Checks.mono _ _
      | exact spoondriftref01_Form.mono _ _ _ _ _ _
      | exact spoondriftref01_fits.mono _ _ _ _ _ _
      | exact LeO.none _
      | refine LeO.ite ?_ ?_
      | refine LeO.bind ?_ (fun _ => ?_)
theorem spoondriftref01_Add.mono : ∀ a0 a1 a2 a3 a4 a5 a6 a7 a8 a9 k, LeO (spoondriftref01_Add.f k a0 a1 a2 a3 a4 a5 a6 a7 a8 a9) (spoondriftref01_Add.f (k + 1) a0 a1 a2 a3 a4 a5 a6 a7 a8 a9) := by
  intro a0 a1 a2 a3 a4 a5 a6 a7 a8 a9 k
  obtain ⟨ih0, ih1⟩ := spoondriftref01_Add.mono_l k
  unfold spoondriftref01_Add.f
  repeat' first
      | (with_reducible exact ih0 _ _ _ _ _ _ _ _ _ _)
      | (with_reducible exact ih1 _ _ _ _ _ _ _ _ _ _)
      | (with_reducible exact spoondriftref01_Checks.mono _ _)
      | (with_reducible exact spoondriftref01_Form.mono _ _ _ _ _ _)
      | (with_reducible exact spoondriftref01_fits.mono _ _ _ _ _ _)
      | (with_reducible exact LeO.refl _)
      | (with_reducible exact LeO.none _)
      | (with_reducible refine LeO.ite ?_ ?_)
      | (with_reducible refine LeO.bind ?_ (fun _ => ?_))
      | exact ih0 _ _ _ _ _ _ _ _ _ _
      | exact ih1 _ _ _ _ _ _ _ _ _ _
      | exact spoondriftref01_Checks.mono _ _
      | exact spoondriftref01_Form.mono _ _ _ _ _ _
      | exact spoondriftref01_fits.mono _ _ _ _ _ _
      | exact LeO.none _
      | refine LeO.ite ?_ ?_
      | refine LeO.bind ?_ (fun _ => ?_)
set_option maxHeartbeats 8000000 in
set_option maxRecDepth 100000 in
theorem spoondriftref01_Add.calls (k : Nat) (a0_0 : Int) (a0_1 : Int) (a0_2 : Int) (a0_3 : Int) (a0_4 : Int) (a1_0 : Int) (a1_1 : Int) (a1_2 : Int) (a1_3 : Int) (a1_4 : Int) (r1 : Int) (r2 : Int) (r3 : Int) (r4 : Int) (r5 : Int) (r6 : Int) (w : World) (h : spoondriftref01_Add.f k a0_0 a0_1 a0_2 a0_3 a0_4 a1_0 a1_1 a1_2 a1_3 a1_4 = some (r1, r2, r3, r4, r5, r6)) :
    Calls Tryz.prog 30 #[.agg #[.int .i64 a0_0, .int .i64 a0_1, .int .i64 a0_2, .int .i64 a0_3, .int .i64 a0_4], .agg #[.int .i64 a1_0, .int .i64 a1_1, .int .i64 a1_2, .int .i64 a1_3, .int .i64 a1_4]] w fun e w' => e = .returned (.tuple #[.agg #[.int .i64 r1, .int .i64 r2, .int .i64 r3, .int .i64 r4, .int .i64 r5], .int .i64 r6]) ∧ Below w.heap.size w w' := by
  have hu23 := Tryz.underlying23
  have HB := Aside0.mk (Below.refl w.heap.size w)
  have H : ((spoondriftref01_Checks.f k (([(⟨a0_0, a0_1, a0_2, a0_3, a0_4⟩ : S23), (⟨a1_0, a1_1, a1_2, a1_3, a1_4⟩ : S23)] : List (S23)))).bind fun t282 => (if t282 = 0 then ((spoondriftref01_Form.f k a0_0 a0_1 a0_2 a0_3 a0_4).bind fun bt283 => ((spoondriftref01_Form.f k a1_0 a1_1 a1_2 a1_3 a1_4).bind fun bt288 => (spoondriftref01_Add.l0 k bt283.1 bt283.2.1 bt283.2.2.1 bt283.2.2.2.1 bt283.2.2.2.2 bt288.1 bt288.2.1 bt288.2.2.1 bt288.2.2.2.1 bt288.2.2.2.2))) else (some (0, 0, 0, 0, 0, t282)))) = some (r1, r2, r3, r4, r5, r6) := h
  clear h
  obtain ⟨y279, hy279⟩ : ∃ y_ : List (S23), y_ = (([(⟨a0_0, a0_1, a0_2, a0_3, a0_4⟩ : S23), (⟨a1_0, a1_1, a1_2, a1_3, a1_4⟩ : S23)] : List (S23))) := ⟨_, rfl⟩
  replace H : ((spoondriftref01_Checks.f k y279).bind fun t282 => (if t282 = 0 then ((spoondriftref01_Form.f k a0_0 a0_1 a0_2 a0_3 a0_4).bind fun bt283 => ((spoondriftref01_Form.f k a1_0 a1_1 a1_2 a1_3 a1_4).bind fun bt288 => (spoondriftref01_Add.l0 k bt283.1 bt283.2.1 bt283.2.2.1 bt283.2.2.2.1 bt283.2.2.2.2 bt288.1 bt288.2.1 bt288.2.2.1 bt288.2.2.2.1 bt288.2.2.2.2))) else (some (0, 0, 0, 0, 0, t282)))) = some (r1, r2, r3, r4, r5, r6) := by first | (rw [hy279]; with_reducible exact H) | (have H2_ := (Option.bind_some _ _).symm.trans H; rw [hy279]; with_reducible exact H2_) | (have H2_ := (Option.bind_some _ _).symm.trans H; with_reducible exact H2_) | with_reducible exact H | (rw [hy279]; exact H) | exact H
  have Ny279 := Aside0.mk hy279
  clear hy279
  replace H := Option.bind_eq_some_iff.mp H
  obtain ⟨t282, A30, H⟩ := H
  replace H : (if t282 = 0 then ((spoondriftref01_Form.f k a0_0 a0_1 a0_2 a0_3 a0_4).bind fun bt283 => ((spoondriftref01_Form.f k a1_0 a1_1 a1_2 a1_3 a1_4).bind fun bt288 => (spoondriftref01_Add.l0 k bt283.1 bt283.2.1 bt283.2.2.1 bt283.2.2.2.1 bt283.2.2.2.2 bt288.1 bt288.2.1 bt288.2.2.1 bt288.2.2.2.1 bt288.2.2.2.2))) else (some (0, 0, 0, 0, 0, t282))) = some (r1, r2, r3, r4, r5, r6) := H
  have A3 := Aside0.mk A30
  clear A30
  by_cases c4 : t282 = 0
  · rw [if_pos c4] at H
    have c4b0 : (t282 == 0) = true := beq_iff_eq.mpr c4
    have c4b1 : (t282 != 0) = false := bne_eq_false_iff_eq.mpr c4
    clear c4
    replace H := Option.bind_eq_some_iff.mp H
    obtain ⟨⟨t283, t284, t285, t286, t287⟩, A50, H⟩ := H
    replace H : ((spoondriftref01_Form.f k a1_0 a1_1 a1_2 a1_3 a1_4).bind fun bt288 => (spoondriftref01_Add.l0 k t283 t284 t285 t286 t287 bt288.1 bt288.2.1 bt288.2.2.1 bt288.2.2.2.1 bt288.2.2.2.2)) = some (r1, r2, r3, r4, r5, r6) := H
    have A5 := Aside0.mk A50
    clear A50
    replace H := Option.bind_eq_some_iff.mp H
    obtain ⟨⟨t288, t289, t290, t291, t292⟩, A60, H⟩ := H
    replace H : (spoondriftref01_Add.l0 k t283 t284 t285 t286 t287 t288 t289 t290 t291 t292) = some (r1, r2, r3, r4, r5, r6) := H
    have A6 := Aside0.mk A60
    clear A60
    have H' := Aside0.mk H
    clear H
    go_enter Tryz.func30, Tryz.ntmps30
    try go_wp2_with (first | ((with_reducible refine gate_dst (N := 2) rfl ?_); refine box_event ?hg (N := 2) ?hd (cs := #[.int .i64 a0_0, .int .i64 a0_1, .int .i64 a0_2, .int .i64 a0_3, .int .i64 a0_4]) (t := 23) ?hr ?_; (case hd => rfl); (case hg => rfl); (case hr => first | (go_simp; done) | (go_simp; rfl)); intro gb276 hg w7 hbox hb; have n0_ := Aside0.mk (below_step (by repeat (first | (with_reducible first | exact HB.out | apply below_alloc | apply pw_below_drewN | apply below_drew1) | exact HB.out)) hb); have n1_ := Aside0.mk (hbox); have n2_ := Aside0.mk ((by rw [hg]; exact (below_size (by repeat (first | (with_reducible first | exact HB.out | apply below_alloc | apply pw_below_drewN | apply below_drew1) | exact HB.out))) : w.heap.size ≤ gb276)); have n3_ := Aside0.mk ((by rw [hg]; exact (below_size (by repeat (first | (with_reducible first | exact HB.out | apply below_alloc | apply pw_below_drewN | apply below_drew1) | exact HB.out))) : w.heap.size ≤ gb276)); clear HB; have HB := n0_; have BK276 := n1_; have GW276 := n2_; have GE276 := n3_; clear n0_ n1_ n2_ n3_; clear hb hbox hg) | ((with_reducible refine gate_dst (N := 3) rfl ?_); refine box_event ?hg (N := 3) ?hd (cs := #[.int .i64 a1_0, .int .i64 a1_1, .int .i64 a1_2, .int .i64 a1_3, .int .i64 a1_4]) (t := 23) ?hr ?_; (case hd => rfl); (case hg => rfl); (case hr => first | (go_simp; done) | (go_simp; rfl)); intro gb277 hg w8 hbox hb; have n0_ := Aside0.mk (blk_below (g := gb276) (o := .cells #[.int .i64 a0_0, .int .i64 a0_1, .int .i64 a0_2, .int .i64 a0_3, .int .i64 a0_4] 23 (0, 0)) (by (with_reducible repeat (first | refine blk_drewN ?_ _ | refine blk_drew ?_ | refine blk_alloc ?_ _)); exact BK276.out) hb); have n1_ := Aside0.mk (below_step (by repeat (first | (with_reducible first | exact HB.out | apply below_alloc | apply pw_below_drewN | apply below_drew1 | refine below_set ?_ GE276.out) | exact HB.out)) hb); have n2_ := Aside0.mk (hbox); have n3_ := Aside0.mk ((by rw [hg]; exact (below_size (by repeat (first | (with_reducible first | exact HB.out | apply below_alloc | apply pw_below_drewN | apply below_drew1 | refine below_set ?_ GE276.out) | exact HB.out))) : w.heap.size ≤ gb277)); have n4_ := Aside0.mk ((by rw [hg]; exact (below_size (by repeat (first | (with_reducible first | exact HB.out | apply below_alloc | apply pw_below_drewN | apply below_drew1 | refine below_set ?_ GE276.out) | exact HB.out))) : w.heap.size ≤ gb277)); have n5_ := Aside0.mk ((by rw [hg]; exact Nat.ne_of_lt (blk_lt (g := gb276) (o := .cells #[.int .i64 a0_0, .int .i64 a0_1, .int .i64 a0_2, .int .i64 a0_3, .int .i64 a0_4] 23 (0, 0)) (by (with_reducible repeat (first | refine blk_drewN ?_ _ | refine blk_drew ?_ | refine blk_alloc ?_ _)); exact BK276.out)) : gb276 ≠ gb277)); have n6_ := Aside0.mk ((by rw [hg]; exact Nat.ne_of_gt (blk_lt (g := gb276) (o := .cells #[.int .i64 a0_0, .int .i64 a0_1, .int .i64 a0_2, .int .i64 a0_3, .int .i64 a0_4] 23 (0, 0)) (by (with_reducible repeat (first | refine blk_drewN ?_ _ | refine blk_drew ?_ | refine blk_alloc ?_ _)); exact BK276.out)) : gb277 ≠ gb276)); clear BK276; clear HB; have BK276 := n0_; have HB := n1_; have BK277 := n2_; have GW277 := n3_; have GE277 := n4_; have NB276_277 := n5_; have NB277_276 := n6_; clear n0_ n1_ n2_ n3_ n4_ n5_ n6_; clear hb hbox hg) | ((with_reducible refine gate_dst (N := 4) rfl ?_); refine box_event ?hg (N := 4) ?hd (cs := #[.int .i64 0, .int .i64 0, .int .i64 0, .int .i64 0, .int .i64 0]) (t := 23) ?hr ?_; (case hd => rfl); (case hg => rfl); (case hr => first | (go_simp; done) | (go_simp; rfl)); intro gb278 hg w9 hbox hb; have n0_ := Aside0.mk (blk_below (g := gb276) (o := .cells #[.int .i64 a0_0, .int .i64 a0_1, .int .i64 a0_2, .int .i64 a0_3, .int .i64 a0_4] 23 (0, 0)) (by (with_reducible repeat (first | refine blk_drewN ?_ _ | refine blk_drew ?_ | refine blk_alloc ?_ _)); exact BK276.out) hb); have n1_ := Aside0.mk (blk_below (g := gb277) (o := .cells #[.int .i64 a1_0, .int .i64 a1_1, .int .i64 a1_2, .int .i64 a1_3, .int .i64 a1_4] 23 (0, 0)) (by (with_reducible repeat (first | refine blk_drewN ?_ _ | refine blk_drew ?_ | refine blk_alloc ?_ _)); exact BK277.out) hb); have n2_ := Aside0.mk (below_step (by repeat (first | (with_reducible first | exact HB.out | apply below_alloc | apply pw_below_drewN | apply below_drew1 | refine below_set ?_ GE276.out | refine below_set ?_ GE277.out) | exact HB.out)) hb); have n3_ := Aside0.mk (hbox); have n4_ := Aside0.mk ((by rw [hg]; exact (below_size (by repeat (first | (with_reducible first | exact HB.out | apply below_alloc | apply pw_below_drewN | apply below_drew1 | refine below_set ?_ GE276.out | refine below_set ?_ GE277.out) | exact HB.out))) : w.heap.size ≤ gb278)); have n5_ := Aside0.mk ((by rw [hg]; exact (below_size (by repeat (first | (with_reducible first | exact HB.out | apply below_alloc | apply pw_below_drewN | apply below_drew1 | refine below_set ?_ GE276.out | refine below_set ?_ GE277.out) | exact HB.out))) : w.heap.size ≤ gb278)); have n6_ := Aside0.mk ((by rw [hg]; exact Nat.ne_of_lt (blk_lt (g := gb276) (o := .cells #[.int .i64 a0_0, .int .i64 a0_1, .int .i64 a0_2, .int .i64 a0_3, .int .i64 a0_4] 23 (0, 0)) (by (with_reducible repeat (first | refine blk_drewN ?_ _ | refine blk_drew ?_ | refine blk_alloc ?_ _)); exact BK276.out)) : gb276 ≠ gb278)); have n7_ := Aside0.mk ((by rw [hg]; exact Nat.ne_of_gt (blk_lt (g := gb276) (o := .cells #[.int .i64 a0_0, .int .i64 a0_1, .int .i64 a0_2, .int .i64 a0_3, .int .i64 a0_4] 23 (0, 0)) (by (with_reducible repeat (first | refine blk_drewN ?_ _ | refine blk_drew ?_ | refine blk_alloc ?_ _)); exact BK276.out)) : gb278 ≠ gb276)); have n8_ := Aside0.mk ((by rw [hg]; exact Nat.ne_of_lt (blk_lt (g := gb277) (o := .cells #[.int .i64 a1_0, .int .i64 a1_1, .int .i64 a1_2, .int .i64 a1_3, .int .i64 a1_4] 23 (0, 0)) (by (with_reducible repeat (first | refine blk_drewN ?_ _ | refine blk_drew ?_ | refine blk_alloc ?_ _)); exact BK277.out)) : gb277 ≠ gb278)); have n9_ := Aside0.mk ((by rw [hg]; exact Nat.ne_of_gt (blk_lt (g := gb277) (o := .cells #[.int .i64 a1_0, .int .i64 a1_1, .int .i64 a1_2, .int .i64 a1_3, .int .i64 a1_4] 23 (0, 0)) (by (with_reducible repeat (first | refine blk_drewN ?_ _ | refine blk_drew ?_ | refine blk_alloc ?_ _)); exact BK277.out)) : gb278 ≠ gb277)); clear BK276; clear BK277; clear HB; have BK276 := n0_; have BK277 := n1_; have HB := n2_; have BK278 := n3_; have GW278 := n4_; have GE278 := n5_; have NB276_278 := n6_; have NB278_276 := n7_; have NB277_278 := n8_; have NB278_277 := n9_; clear n0_ n1_ n2_ n3_ n4_ n5_ n6_ n7_ n8_ n9_; clear hb hbox hg; have hnb10 := NB276_277.out; have hnc10 := NB277_276.out; have hnb11 := NB276_278.out; have hnc11 := NB278_276.out; have hcz12_0 : w9.cell? ⟨gb276, 0, none⟩ = some (.int .i64 a0_0) := (blk_cell BK276.out 0).trans rfl; have hcz12_1 : w9.cell? ⟨gb276, 1, none⟩ = some (.int .i64 a0_1) := (blk_cell BK276.out 1).trans rfl; have hcz12_2 : w9.cell? ⟨gb276, 2, none⟩ = some (.int .i64 a0_2) := (blk_cell BK276.out 2).trans rfl; have hcz12_3 : w9.cell? ⟨gb276, 3, none⟩ = some (.int .i64 a0_3) := (blk_cell BK276.out 3).trans rfl; have hcz12_4 : w9.cell? ⟨gb276, 4, none⟩ = some (.int .i64 a0_4) := (blk_cell BK276.out 4).trans rfl; have hfz12_0 := blk_frozen BK276.out 0; have hfz12_1 := blk_frozen BK276.out 1; have hfz12_2 := blk_frozen BK276.out 2; have hfz12_3 := blk_frozen BK276.out 3; have hfz12_4 := blk_frozen BK276.out 4; have hnb13 := NB277_278.out; have hnc13 := NB278_277.out; have hcz14_0 : w9.cell? ⟨gb277, 0, none⟩ = some (.int .i64 a1_0) := (blk_cell BK277.out 0).trans rfl; have hcz14_1 : w9.cell? ⟨gb277, 1, none⟩ = some (.int .i64 a1_1) := (blk_cell BK277.out 1).trans rfl; have hcz14_2 : w9.cell? ⟨gb277, 2, none⟩ = some (.int .i64 a1_2) := (blk_cell BK277.out 2).trans rfl; have hcz14_3 : w9.cell? ⟨gb277, 3, none⟩ = some (.int .i64 a1_3) := (blk_cell BK277.out 3).trans rfl; have hcz14_4 : w9.cell? ⟨gb277, 4, none⟩ = some (.int .i64 a1_4) := (blk_cell BK277.out 4).trans rfl; have hfz14_0 := blk_frozen BK277.out 0; have hfz14_1 := blk_frozen BK277.out 1; have hfz14_2 := blk_frozen BK277.out 2; have hfz14_3 := blk_frozen BK277.out 3; have hfz14_4 := blk_frozen BK277.out 4) | ((with_reducible refine gate_dst (N := 9) rfl ?_); refine Kd.R_lit k23 _ 23 ?hg (N := 9) ?hd (xs := ([(⟨a0_0, a0_1, a0_2, a0_3, a0_4⟩ : S23), (⟨a1_0, a1_1, a1_2, a1_3, a1_4⟩ : S23)] : List (S23))) (inner := [.int .i64 a0_0, .int .i64 a0_1, .int .i64 a0_2, .int .i64 a0_3, .int .i64 a0_4, .int .i64 a1_0, .int .i64 a1_1, .int .i64 a1_2, .int .i64 a1_3, .int .i64 a1_4]) (ok := fun _ => True) (okp := fun _ => True) ?hr ?hp (fun _ hk => hk) trivial (Below.refl _ _) (Nat.le_refl _) (by simp) ?_; (case hd => rfl); (case hg => rfl); (case hr => first | (go_simp; done) | (go_simp; rfl)); (case hp => exact (Reps.c5 (show Kd.M k23 _ _ _ (⟨a0_0, a0_1, a0_2, a0_3, a0_4⟩ : S23) [.int .i64 a0_0, .int .i64 a0_1, .int .i64 a0_2, .int .i64 a0_3, .int .i64 a0_4] from (k23_mkM _ _ _ (⟨a0_0, a0_1, a0_2, a0_3, a0_4⟩ : S23) )) (Reps.c5 (show Kd.M k23 _ _ _ (⟨a1_0, a1_1, a1_2, a1_3, a1_4⟩ : S23) [.int .i64 a1_0, .int .i64 a1_1, .int .i64 a1_2, .int .i64 a1_3, .int .i64 a1_4] from (k23_mkM _ _ _ (⟨a1_0, a1_1, a1_2, a1_3, a1_4⟩ : S23) )) (Reps.none _ _)))); intro v280 w15 ho16 hb hg_ hnew_; clear hg_ hnew_; (first | rw [← Ny279.out] at ho16 | (simp only [Int.reduceToNat] at ho16; rw [← Ny279.out] at ho16)); have n0_ := Aside0.mk (Kd.R_lower (Kd.R_newB (Kd.R_newB (Kd.R_newB ho16 (g := gb276) (o := .cells #[.int .i64 a0_0, .int .i64 a0_1, .int .i64 a0_2, .int .i64 a0_3, .int .i64 a0_4] 23 (0, 0)) (by (with_reducible repeat (first | refine blk_drewN ?_ _ | refine blk_drew ?_ | refine blk_alloc ?_ _)); exact BK276.out)) (g := gb277) (o := .cells #[.int .i64 a1_0, .int .i64 a1_1, .int .i64 a1_2, .int .i64 a1_3, .int .i64 a1_4] 23 (0, 0)) (by (with_reducible repeat (first | refine blk_drewN ?_ _ | refine blk_drew ?_ | refine blk_alloc ?_ _)); exact BK277.out)) (g := gb278) (o := .cells #[.int .i64 0, .int .i64 0, .int .i64 0, .int .i64 0, .int .i64 0] 23 (0, 0)) (by (with_reducible repeat (first | refine blk_drewN ?_ _ | refine blk_drew ?_ | refine blk_alloc ?_ _)); exact BK278.out)) (below_size (by repeat (first | (with_reducible first | exact HB.out | apply below_alloc | apply pw_below_drewN | apply below_drew1 | refine below_set ?_ GE276.out | refine below_set ?_ GE277.out | refine below_set ?_ GE278.out) | exact HB.out)))); have n1_ := Aside0.mk (blk_below (g := gb276) (o := .cells #[.int .i64 a0_0, .int .i64 a0_1, .int .i64 a0_2, .int .i64 a0_3, .int .i64 a0_4] 23 (0, 0)) (by (with_reducible repeat (first | refine blk_drewN ?_ _ | refine blk_drew ?_ | refine blk_alloc ?_ _)); exact BK276.out) hb); have n2_ := Aside0.mk (blk_below (g := gb277) (o := .cells #[.int .i64 a1_0, .int .i64 a1_1, .int .i64 a1_2, .int .i64 a1_3, .int .i64 a1_4] 23 (0, 0)) (by (with_reducible repeat (first | refine blk_drewN ?_ _ | refine blk_drew ?_ | refine blk_alloc ?_ _)); exact BK277.out) hb); have n3_ := Aside0.mk (blk_below (g := gb278) (o := .cells #[.int .i64 0, .int .i64 0, .int .i64 0, .int .i64 0, .int .i64 0] 23 (0, 0)) (by (with_reducible repeat (first | refine blk_drewN ?_ _ | refine blk_drew ?_ | refine blk_alloc ?_ _)); exact BK278.out) hb); have n4_ := Aside0.mk (below_step (by repeat (first | (with_reducible first | exact HB.out | apply below_alloc | apply pw_below_drewN | apply below_drew1 | refine below_set ?_ GE276.out | refine below_set ?_ GE277.out | refine below_set ?_ GE278.out) | exact HB.out)) hb); clear BK276; clear BK277; clear BK278; clear HB; have HO281 := n0_; have BK276 := n1_; have BK277 := n2_; have BK278 := n3_; have HB := n4_; clear n0_ n1_ n2_ n3_ n4_; clear hb ho16; obtain ⟨Ao17, co17, eo17⟩ := Kd.R_slice HO281.out; subst eo17) | ((with_reducible refine gate_callee (f := 29) rfl ?_); refine goesL_ (some 10) rfl rfl Tryz.func29 (by kernel_rfl) rfl #[.slice Ao17 y279.length co17] rfl (by (try simp only [List.map_toArray, List.map_cons, List.map_nil]); first | done | rfl | (simp only [List.length_drop, List.length_take]; rfl)) ?_; (with_reducible refine (spoondriftref01_Checks.calls k _ _ y279 t282 _ ?side1 ?side2 A3.out).mono ?_); (case side1 => repeat (first | exact (Kd.R_reads' HO281.out).2.2 | (with_reducible refine Kd.C_alloc ?_ _) | (with_reducible refine Kd.C_drewN ?_ _) | (with_reducible refine Kd.C_drew ?_))); (case side2 => exact (Kd.R_reads' HO281.out).2.1); rintro e w18 ⟨rfl, hb⟩; refine ⟨_, rfl, ?_⟩; have n0_ := Aside0.mk (Kd.R_below (by (with_reducible repeat (first | apply Kd.R_alloc | apply Kd.R_drewN | apply Kd.R_drew)); exact HO281.out) hb); have n1_ := Aside0.mk (blk_below (g := gb276) (o := .cells #[.int .i64 a0_0, .int .i64 a0_1, .int .i64 a0_2, .int .i64 a0_3, .int .i64 a0_4] 23 (0, 0)) (by (with_reducible repeat (first | refine blk_drewN ?_ _ | refine blk_drew ?_ | refine blk_alloc ?_ _)); exact BK276.out) hb); have n2_ := Aside0.mk (blk_below (g := gb277) (o := .cells #[.int .i64 a1_0, .int .i64 a1_1, .int .i64 a1_2, .int .i64 a1_3, .int .i64 a1_4] 23 (0, 0)) (by (with_reducible repeat (first | refine blk_drewN ?_ _ | refine blk_drew ?_ | refine blk_alloc ?_ _)); exact BK277.out) hb); have n3_ := Aside0.mk (blk_below (g := gb278) (o := .cells #[.int .i64 0, .int .i64 0, .int .i64 0, .int .i64 0, .int .i64 0] 23 (0, 0)) (by (with_reducible repeat (first | refine blk_drewN ?_ _ | refine blk_drew ?_ | refine blk_alloc ?_ _)); exact BK278.out) hb); have n4_ := Aside0.mk (below_step (by repeat (first | (with_reducible first | exact HB.out | apply below_alloc | apply pw_below_drewN | apply below_drew1 | refine below_set ?_ GE276.out | refine below_set ?_ GE277.out | refine below_set ?_ GE278.out) | exact HB.out)) hb); clear HO281; clear BK276; clear BK277; clear BK278; clear HB; have HO281 := n0_; have BK276 := n1_; have BK277 := n2_; have BK278 := n3_; have HB := n4_; clear n0_ n1_ n2_ n3_ n4_; (try clear hb); (try clear hb2); (try clear hk); (try clear hi)))
    have n0_ := Aside0.mk (Kd.R_drew HO281.out)
    have n1_ := Aside0.mk (blk_drew BK276.out)
    have n2_ := Aside0.mk (blk_drew BK277.out)
    have n3_ := Aside0.mk (blk_drew BK278.out)
    have n4_ := Aside0.mk (below_drew1 HB.out)
    clear HO281
    clear BK276
    clear BK277
    clear BK278
    clear HB
    have HO281 := n0_
    have BK276 := n1_
    have BK277 := n2_
    have BK278 := n3_
    have HB := n4_
    clear n0_ n1_ n2_ n3_ n4_
    refine start_ (n := 6) (S := fun w' => w'.cell? ⟨gb276, 0, none⟩ = some (.int .i64 a0_0) ∧ w'.cell? ⟨gb276, 1, none⟩ = some (.int .i64 a0_1) ∧ w'.cell? ⟨gb276, 2, none⟩ = some (.int .i64 a0_2) ∧ w'.cell? ⟨gb276, 3, none⟩ = some (.int .i64 a0_3) ∧ w'.cell? ⟨gb276, 4, none⟩ = some (.int .i64 a0_4) ∧ w'.cell? ⟨gb277, 0, none⟩ = some (.int .i64 a1_0) ∧ w'.cell? ⟨gb277, 1, none⟩ = some (.int .i64 a1_1) ∧ w'.cell? ⟨gb277, 2, none⟩ = some (.int .i64 a1_2) ∧ w'.cell? ⟨gb277, 3, none⟩ = some (.int .i64 a1_3) ∧ w'.cell? ⟨gb277, 4, none⟩ = some (.int .i64 a1_4)) (ds := [4, 5]) #[false, false, false, false, false, false] (by kernel_rfl) rfl rfl ⟨(blk_cell BK276.out 0).trans rfl, (blk_cell BK276.out 1).trans rfl, (blk_cell BK276.out 2).trans rfl, (blk_cell BK276.out 3).trans rfl, (blk_cell BK276.out 4).trans rfl, (blk_cell BK277.out 0).trans rfl, (blk_cell BK277.out 1).trans rfl, (blk_cell BK277.out 2).trans rfl, (blk_cell BK277.out 3).trans rfl, (blk_cell BK277.out 4).trans rfl⟩ (fun hHeld => ?_)
    generalize w18.drew = w19 at HO281 BK276 BK277 BK278 HB hHeld ⊢
    refine take_ (i := 0) (N := some 15) (v := ?_) (a' := ?_) #[true, false, false, false, false, false] rfl rfl (by kernel_rfl) (fun _ _ _ h => h) (Or.inl ⟨by rfl, ?_⟩) hHeld ?_ ?_
    rotate_left
    · rintro w' ⟨s0, s1, s2, s3, s4, s5, s6, s7, s8, s9⟩
      go_simp
      with_reducible rfl
    rotate_left
    · simp only [Act.put, List.setIfInBounds_toArray, List.set_cons_zero, List.set_cons_succ, i64_w, i32_w]
      rfl
    refine take_ (i := 2) (N := some 17) (v := ?_) (a' := ?_) #[true, false, true, false, false, false] rfl rfl (by kernel_rfl) (fun _ _ _ h => h) (Or.inl ⟨by rfl, ?_⟩) hHeld ?_ ?_
    rotate_left
    · rintro w' ⟨s0, s1, s2, s3, s4, s5, s6, s7, s8, s9⟩
      go_simp
      with_reducible rfl
    rotate_left
    · simp only [Act.put, List.setIfInBounds_toArray, List.set_cons_zero, List.set_cons_succ, i64_w, i32_w]
      rfl
    refine one_ (i := 1) (N := some 16) #[true, true, true, false, false, false] rfl rfl (by kernel_rfl) (by decide) (fun K hK => ?_)
    refine goes_ Tryz.func26 (by kernel_rfl) rfl #[.agg #[.int .i64 a0_0, .int .i64 a0_1, .int .i64 a0_2, .int .i64 a0_3, .int .i64 a0_4]] (by rfl) rfl rfl (by (try simp only [List.map_toArray, List.map_cons, List.map_nil]); first | done | rfl | (simp only [List.length_drop, List.length_take]; rfl)) ?_
    with_reducible refine (spoondriftref01_Form.calls k a0_0 a0_1 a0_2 a0_3 a0_4 t283 t284 t285 t286 t287 _ A5.out).mono ?_
    rintro e w20 ⟨rfl, hb⟩
    refine ⟨_, rfl, ?_⟩
    have n0_ := Aside0.mk (Kd.R_below (by (with_reducible repeat (first | apply Kd.R_alloc | apply Kd.R_drewN | apply Kd.R_drew)); exact HO281.out) hb)
    have n1_ := Aside0.mk (blk_below (g := gb276) (o := .cells #[.int .i64 a0_0, .int .i64 a0_1, .int .i64 a0_2, .int .i64 a0_3, .int .i64 a0_4] 23 (0, 0)) (by (with_reducible repeat (first | refine blk_drewN ?_ _ | refine blk_drew ?_ | refine blk_alloc ?_ _)); exact BK276.out) hb)
    have n2_ := Aside0.mk (blk_below (g := gb277) (o := .cells #[.int .i64 a1_0, .int .i64 a1_1, .int .i64 a1_2, .int .i64 a1_3, .int .i64 a1_4] 23 (0, 0)) (by (with_reducible repeat (first | refine blk_drewN ?_ _ | refine blk_drew ?_ | refine blk_alloc ?_ _)); exact BK277.out) hb)
    have n3_ := Aside0.mk (blk_below (g := gb278) (o := .cells #[.int .i64 0, .int .i64 0, .int .i64 0, .int .i64 0, .int .i64 0] 23 (0, 0)) (by (with_reducible repeat (first | refine blk_drewN ?_ _ | refine blk_drew ?_ | refine blk_alloc ?_ _)); exact BK278.out) hb)
    have n4_ := Aside0.mk (below_step (by repeat (first | (with_reducible first | exact HB.out | apply below_alloc | apply pw_below_drewN | apply below_drew1 | refine below_set ?_ GE276.out | refine below_set ?_ GE277.out | refine below_set ?_ GE278.out) | exact HB.out)) hb)
    clear HO281
    clear BK276
    clear BK277
    clear BK278
    clear HB
    have HO281 := n0_
    have BK276 := n1_
    have BK277 := n2_
    have BK278 := n3_
    have HB := n4_
    clear n0_ n1_ n2_ n3_ n4_
    (try clear hb)
    (try clear hb2)
    (try clear hk)
    (try clear hi)
    refine hK.out _ _ ⟨(blk_cell BK276.out 0).trans rfl, (blk_cell BK276.out 1).trans rfl, (blk_cell BK276.out 2).trans rfl, (blk_cell BK276.out 3).trans rfl, (blk_cell BK276.out 4).trans rfl, (blk_cell BK277.out 0).trans rfl, (blk_cell BK277.out 1).trans rfl, (blk_cell BK277.out 2).trans rfl, (blk_cell BK277.out 3).trans rfl, (blk_cell BK277.out 4).trans rfl⟩ (fun hHeld => ?_)
    clear hK K
    refine norm_ (a' := ?_) ?_ ?_
    rotate_left
    · show Act.put _ (some 16) _ = _
      simp only [Act.put, List.setIfInBounds_toArray, List.set_cons_zero, List.set_cons_succ, i64_w, i32_w]
      rfl
    refine one_ (i := 3) (N := some 18) #[true, true, true, true, false, false] rfl rfl (by kernel_rfl) (by decide) (fun K hK => ?_)
    refine goes_ Tryz.func26 (by kernel_rfl) rfl #[.agg #[.int .i64 a1_0, .int .i64 a1_1, .int .i64 a1_2, .int .i64 a1_3, .int .i64 a1_4]] (by rfl) rfl rfl (by (try simp only [List.map_toArray, List.map_cons, List.map_nil]); first | done | rfl | (simp only [List.length_drop, List.length_take]; rfl)) ?_
    with_reducible refine (spoondriftref01_Form.calls k a1_0 a1_1 a1_2 a1_3 a1_4 t288 t289 t290 t291 t292 _ A6.out).mono ?_
    rintro e w21 ⟨rfl, hb⟩
    refine ⟨_, rfl, ?_⟩
    have n0_ := Aside0.mk (Kd.R_below (by (with_reducible repeat (first | apply Kd.R_alloc | apply Kd.R_drewN | apply Kd.R_drew)); exact HO281.out) hb)
    have n1_ := Aside0.mk (blk_below (g := gb276) (o := .cells #[.int .i64 a0_0, .int .i64 a0_1, .int .i64 a0_2, .int .i64 a0_3, .int .i64 a0_4] 23 (0, 0)) (by (with_reducible repeat (first | refine blk_drewN ?_ _ | refine blk_drew ?_ | refine blk_alloc ?_ _)); exact BK276.out) hb)
    have n2_ := Aside0.mk (blk_below (g := gb277) (o := .cells #[.int .i64 a1_0, .int .i64 a1_1, .int .i64 a1_2, .int .i64 a1_3, .int .i64 a1_4] 23 (0, 0)) (by (with_reducible repeat (first | refine blk_drewN ?_ _ | refine blk_drew ?_ | refine blk_alloc ?_ _)); exact BK277.out) hb)
    have n3_ := Aside0.mk (blk_below (g := gb278) (o := .cells #[.int .i64 0, .int .i64 0, .int .i64 0, .int .i64 0, .int .i64 0] 23 (0, 0)) (by (with_reducible repeat (first | refine blk_drewN ?_ _ | refine blk_drew ?_ | refine blk_alloc ?_ _)); exact BK278.out) hb)
    have n4_ := Aside0.mk (below_step (by repeat (first | (with_reducible first | exact HB.out | apply below_alloc | apply pw_below_drewN | apply below_drew1 | refine below_set ?_ GE276.out | refine below_set ?_ GE277.out | refine below_set ?_ GE278.out) | exact HB.out)) hb)
    clear HO281
    clear BK276
    clear BK277
    clear BK278
    clear HB
    have HO281 := n0_
    have BK276 := n1_
    have BK277 := n2_
    have BK278 := n3_
    have HB := n4_
    clear n0_ n1_ n2_ n3_ n4_
    (try clear hb)
    (try clear hb2)
    (try clear hk)
    (try clear hi)
    refine hK.out _ _ ⟨(blk_cell BK276.out 0).trans rfl, (blk_cell BK276.out 1).trans rfl, (blk_cell BK276.out 2).trans rfl, (blk_cell BK276.out 3).trans rfl, (blk_cell BK276.out 4).trans rfl, (blk_cell BK277.out 0).trans rfl, (blk_cell BK277.out 1).trans rfl, (blk_cell BK277.out 2).trans rfl, (blk_cell BK277.out 3).trans rfl, (blk_cell BK277.out 4).trans rfl⟩ (fun hHeld => ?_)
    clear hK K
    refine norm_ (a' := ?_) ?_ ?_
    rotate_left
    · show Act.put _ (some 18) _ = _
      simp only [Act.put, List.setIfInBounds_toArray, List.set_cons_zero, List.set_cons_succ, i64_w, i32_w]
      rfl
    refine last_ (i := 4) (N := none) #[true, true, true, true, true, false] rfl rfl (by kernel_rfl) (by decide) (fun K hK => ?_)
    have hs22 : w21.cell? ⟨gb276, 0, none⟩ = some (.int .i64 a0_0) := (blk_cell BK276.out 0).trans rfl
    have hfs22 := blk_frozen BK276.out 0
    have hns22_1 := NB277_276.out
    have hns22_2 := NB278_276.out
    have hms22_1 := NB276_277.out
    have hms22_2 := NB276_278.out
    have hs23 : w21.cell? ⟨gb276, 1, none⟩ = some (.int .i64 a0_1) := (blk_cell BK276.out 1).trans rfl
    have hfs23 := blk_frozen BK276.out 1
    have hns23_1 := NB277_276.out
    have hns23_2 := NB278_276.out
    have hms23_1 := NB276_277.out
    have hms23_2 := NB276_278.out
    have hs24 : w21.cell? ⟨gb276, 2, none⟩ = some (.int .i64 a0_2) := (blk_cell BK276.out 2).trans rfl
    have hfs24 := blk_frozen BK276.out 2
    have hns24_1 := NB277_276.out
    have hns24_2 := NB278_276.out
    have hms24_1 := NB276_277.out
    have hms24_2 := NB276_278.out
    have hs25 : w21.cell? ⟨gb276, 3, none⟩ = some (.int .i64 a0_3) := (blk_cell BK276.out 3).trans rfl
    have hfs25 := blk_frozen BK276.out 3
    have hns25_1 := NB277_276.out
    have hns25_2 := NB278_276.out
    have hms25_1 := NB276_277.out
    have hms25_2 := NB276_278.out
    have hs26 : w21.cell? ⟨gb276, 4, none⟩ = some (.int .i64 a0_4) := (blk_cell BK276.out 4).trans rfl
    have hfs26 := blk_frozen BK276.out 4
    have hns26_1 := NB277_276.out
    have hns26_2 := NB278_276.out
    have hms26_1 := NB276_277.out
    have hms26_2 := NB276_278.out
    refine skip_ (w1 := ?_) (by rfl) rfl ?_ ?_
    rotate_left
    · go_simp
      rfl
    refine hK.out _ _ ?_
    clear hK K
    refine last_ (i := 5) (N := none) #[true, true, true, true, true, true] rfl rfl (by kernel_rfl) (by decide) (fun K hK => ?_)
    have hs27 : w21.cell? ⟨gb277, 0, none⟩ = some (.int .i64 a1_0) := (blk_cell BK277.out 0).trans rfl
    have hfs27 := blk_frozen BK277.out 0
    have hns27_0 := NB276_277.out
    have hns27_2 := NB278_277.out
    have hms27_0 := NB277_276.out
    have hms27_2 := NB277_278.out
    have hs28 : w21.cell? ⟨gb277, 1, none⟩ = some (.int .i64 a1_1) := (blk_cell BK277.out 1).trans rfl
    have hfs28 := blk_frozen BK277.out 1
    have hns28_0 := NB276_277.out
    have hns28_2 := NB278_277.out
    have hms28_0 := NB277_276.out
    have hms28_2 := NB277_278.out
    have hs29 : w21.cell? ⟨gb277, 2, none⟩ = some (.int .i64 a1_2) := (blk_cell BK277.out 2).trans rfl
    have hfs29 := blk_frozen BK277.out 2
    have hns29_0 := NB276_277.out
    have hns29_2 := NB278_277.out
    have hms29_0 := NB277_276.out
    have hms29_2 := NB277_278.out
    have hs30 : w21.cell? ⟨gb277, 3, none⟩ = some (.int .i64 a1_3) := (blk_cell BK277.out 3).trans rfl
    have hfs30 := blk_frozen BK277.out 3
    have hns30_0 := NB276_277.out
    have hns30_2 := NB278_277.out
    have hms30_0 := NB277_276.out
    have hms30_2 := NB277_278.out
    have hs31 : w21.cell? ⟨gb277, 4, none⟩ = some (.int .i64 a1_4) := (blk_cell BK277.out 4).trans rfl
    have hfs31 := blk_frozen BK277.out 4
    have hns31_0 := NB276_277.out
    have hns31_2 := NB278_277.out
    have hms31_0 := NB277_276.out
    have hms31_2 := NB277_278.out
    refine skip_ (w1 := ?_) (by rfl) rfl ?_ ?_
    rotate_left
    · go_simp
      rfl
    refine hK.out _ _ ?_
    clear hK K
    refine done_ (by kernel_rfl) ?_
    try go_wp2
    (try simp only [Act.put, List.setIfInBounds_toArray, List.set_cons_zero, List.set_cons_succ])
    go_loopg [] k (fun kq w' => ∃ (x277000_1 : Int) (x277001_1 : Int) (x277002_1 : Int) (x277003_1 : Int) (x277004_1 : Int), Aside0 (spoondriftref01_Add.l0 kq x277000_1 x277001_1 x277002_1 x277003_1 x277004_1 t288 t289 t290 t291 t292 = some (r1, r2, r3, r4, r5, r6)) ∧ Aside0 (kq ≤ k) ∧ Aside0 (w'.heap[gb276]? = some (.cells #[.int .i64 x277000_1, .int .i64 x277001_1, .int .i64 x277002_1, .int .i64 x277003_1, .int .i64 x277004_1] 23 (0, 0))) ∧ Aside0 (w'.heap[gb277]? = some (.cells #[.int .i64 t288, .int .i64 t289, .int .i64 t290, .int .i64 t291, .int .i64 t292] 23 (0, 0))) ∧ Aside0 (w'.heap[gb278]? = some (.cells #[.int .i64 0, .int .i64 0, .int .i64 0, .int .i64 0, .int .i64 0] 23 (0, 0))) ∧ Aside0 (Below w.heap.size w w'))
    case atStart => exact ⟨(t283), (t284), (t285), (t286), (t287), H', ⟨Nat.le_refl _⟩, ⟨by (with_reducible repeat (first | refine blk_drewN ?_ _ | refine blk_drew ?_ | refine blk_alloc ?_ _)); refine blk_far ?_ NB276_277.out _; (with_reducible repeat (first | refine blk_drewN ?_ _ | refine blk_drew ?_ | refine blk_alloc ?_ _)); refine blk_far ?_ NB276_277.out _; (with_reducible repeat (first | refine blk_drewN ?_ _ | refine blk_drew ?_ | refine blk_alloc ?_ _)); refine blk_far ?_ NB276_277.out _; (with_reducible repeat (first | refine blk_drewN ?_ _ | refine blk_drew ?_ | refine blk_alloc ?_ _)); refine blk_far ?_ NB276_277.out _; (with_reducible repeat (first | refine blk_drewN ?_ _ | refine blk_drew ?_ | refine blk_alloc ?_ _)); refine blk_far ?_ NB276_277.out _; (with_reducible repeat (first | refine blk_drewN ?_ _ | refine blk_drew ?_ | refine blk_alloc ?_ _)); refine blk_put (cs := #[.int .i64 t283, .int .i64 t284, .int .i64 t285, .int .i64 t286, .int .i64 a0_4]) ?_ 4 _ rfl; (with_reducible repeat (first | refine blk_drewN ?_ _ | refine blk_drew ?_ | refine blk_alloc ?_ _)); refine blk_put (cs := #[.int .i64 t283, .int .i64 t284, .int .i64 t285, .int .i64 a0_3, .int .i64 a0_4]) ?_ 3 _ rfl; (with_reducible repeat (first | refine blk_drewN ?_ _ | refine blk_drew ?_ | refine blk_alloc ?_ _)); refine blk_put (cs := #[.int .i64 t283, .int .i64 t284, .int .i64 a0_2, .int .i64 a0_3, .int .i64 a0_4]) ?_ 2 _ rfl; (with_reducible repeat (first | refine blk_drewN ?_ _ | refine blk_drew ?_ | refine blk_alloc ?_ _)); refine blk_put (cs := #[.int .i64 t283, .int .i64 a0_1, .int .i64 a0_2, .int .i64 a0_3, .int .i64 a0_4]) ?_ 1 _ rfl; (with_reducible repeat (first | refine blk_drewN ?_ _ | refine blk_drew ?_ | refine blk_alloc ?_ _)); refine blk_put (cs := #[.int .i64 a0_0, .int .i64 a0_1, .int .i64 a0_2, .int .i64 a0_3, .int .i64 a0_4]) ?_ 0 _ rfl; (with_reducible repeat (first | refine blk_drewN ?_ _ | refine blk_drew ?_ | refine blk_alloc ?_ _)); exact BK276.out⟩, ⟨by (with_reducible repeat (first | refine blk_drewN ?_ _ | refine blk_drew ?_ | refine blk_alloc ?_ _)); refine blk_put (cs := #[.int .i64 t288, .int .i64 t289, .int .i64 t290, .int .i64 t291, .int .i64 a1_4]) ?_ 4 _ rfl; (with_reducible repeat (first | refine blk_drewN ?_ _ | refine blk_drew ?_ | refine blk_alloc ?_ _)); refine blk_put (cs := #[.int .i64 t288, .int .i64 t289, .int .i64 t290, .int .i64 a1_3, .int .i64 a1_4]) ?_ 3 _ rfl; (with_reducible repeat (first | refine blk_drewN ?_ _ | refine blk_drew ?_ | refine blk_alloc ?_ _)); refine blk_put (cs := #[.int .i64 t288, .int .i64 t289, .int .i64 a1_2, .int .i64 a1_3, .int .i64 a1_4]) ?_ 2 _ rfl; (with_reducible repeat (first | refine blk_drewN ?_ _ | refine blk_drew ?_ | refine blk_alloc ?_ _)); refine blk_put (cs := #[.int .i64 t288, .int .i64 a1_1, .int .i64 a1_2, .int .i64 a1_3, .int .i64 a1_4]) ?_ 1 _ rfl; (with_reducible repeat (first | refine blk_drewN ?_ _ | refine blk_drew ?_ | refine blk_alloc ?_ _)); refine blk_put (cs := #[.int .i64 a1_0, .int .i64 a1_1, .int .i64 a1_2, .int .i64 a1_3, .int .i64 a1_4]) ?_ 0 _ rfl; (with_reducible repeat (first | refine blk_drewN ?_ _ | refine blk_drew ?_ | refine blk_alloc ?_ _)); refine blk_far ?_ NB277_276.out _; (with_reducible repeat (first | refine blk_drewN ?_ _ | refine blk_drew ?_ | refine blk_alloc ?_ _)); refine blk_far ?_ NB277_276.out _; (with_reducible repeat (first | refine blk_drewN ?_ _ | refine blk_drew ?_ | refine blk_alloc ?_ _)); refine blk_far ?_ NB277_276.out _; (with_reducible repeat (first | refine blk_drewN ?_ _ | refine blk_drew ?_ | refine blk_alloc ?_ _)); refine blk_far ?_ NB277_276.out _; (with_reducible repeat (first | refine blk_drewN ?_ _ | refine blk_drew ?_ | refine blk_alloc ?_ _)); refine blk_far ?_ NB277_276.out _; (with_reducible repeat (first | refine blk_drewN ?_ _ | refine blk_drew ?_ | refine blk_alloc ?_ _)); exact BK277.out⟩, ⟨by (with_reducible repeat (first | refine blk_drewN ?_ _ | refine blk_drew ?_ | refine blk_alloc ?_ _)); refine blk_far ?_ NB278_277.out _; (with_reducible repeat (first | refine blk_drewN ?_ _ | refine blk_drew ?_ | refine blk_alloc ?_ _)); refine blk_far ?_ NB278_277.out _; (with_reducible repeat (first | refine blk_drewN ?_ _ | refine blk_drew ?_ | refine blk_alloc ?_ _)); refine blk_far ?_ NB278_277.out _; (with_reducible repeat (first | refine blk_drewN ?_ _ | refine blk_drew ?_ | refine blk_alloc ?_ _)); refine blk_far ?_ NB278_277.out _; (with_reducible repeat (first | refine blk_drewN ?_ _ | refine blk_drew ?_ | refine blk_alloc ?_ _)); refine blk_far ?_ NB278_277.out _; (with_reducible repeat (first | refine blk_drewN ?_ _ | refine blk_drew ?_ | refine blk_alloc ?_ _)); refine blk_far ?_ NB278_276.out _; (with_reducible repeat (first | refine blk_drewN ?_ _ | refine blk_drew ?_ | refine blk_alloc ?_ _)); refine blk_far ?_ NB278_276.out _; (with_reducible repeat (first | refine blk_drewN ?_ _ | refine blk_drew ?_ | refine blk_alloc ?_ _)); refine blk_far ?_ NB278_276.out _; (with_reducible repeat (first | refine blk_drewN ?_ _ | refine blk_drew ?_ | refine blk_alloc ?_ _)); refine blk_far ?_ NB278_276.out _; (with_reducible repeat (first | refine blk_drewN ?_ _ | refine blk_drew ?_ | refine blk_alloc ?_ _)); refine blk_far ?_ NB278_276.out _; (with_reducible repeat (first | refine blk_drewN ?_ _ | refine blk_drew ?_ | refine blk_alloc ?_ _)); exact BK278.out⟩, ⟨by repeat (first | (with_reducible first | exact HB.out | apply below_alloc | apply pw_below_drewN | apply below_drew1 | refine below_set ?_ GE276.out | refine below_set ?_ GE277.out | refine below_set ?_ GE278.out) | exact HB.out)⟩⟩
    case round =>
      clear H'
      try clear c1
      try clear c2
      try clear p2
      try clear c3
      try clear c4
      try clear c4b0
      try clear c4b1
      try clear c5
      try clear c10
      try clear c11
      try clear c13
      try clear c26
      try clear c29
      try clear c30
      try clear hcz12_0
      try clear hcz12_1
      try clear hcz12_2
      try clear hcz12_3
      try clear hcz12_4
      try clear hcz14_0
      try clear hcz14_1
      try clear hcz14_2
      try clear hcz14_3
      try clear hcz14_4
      try clear hfz12_0
      try clear hfz12_1
      try clear hfz12_2
      try clear hfz12_3
      try clear hfz12_4
      try clear hfz14_0
      try clear hfz14_1
      try clear hfz14_2
      try clear hfz14_3
      try clear hfz14_4
      obtain ⟨x277000_1, x277001_1, x277002_1, x277003_1, x277004_1, HA, HK1, BK276, BK277, BK278, HB⟩ := hrel
      cases gk with
      | zero => exact absurd HA.out (by simp [spoondriftref01_Add.l0])
      | succ k1 =>
        have H := HA.out
        clear HA
        simp only [spoondriftref01_Add.l0] at H
        by_cases c32 : x277004_1 < t292
        · rw [if_pos c32] at H
          have c32b0 : decide (x277004_1 < t292) = true := decide_eq_true c32
          clear c32
          replace H := Option.bind_eq_some_iff.mp H
          obtain ⟨⟨t293, t294, t295, t296, t297⟩, A330, H⟩ := H
          replace H : (spoondriftref01_Add.l0 k1 t293 t294 t295 t296 (wrap64 (t297 + 1)) t288 t289 t290 t291 t292) = some (r1, r2, r3, r4, r5, r6) := H
          have A33 := Aside0.mk A330
          clear A330
          have H' := Aside0.mk H
          clear H
          have hnb34 := NB276_277.out
          have hnc34 := NB277_276.out
          have hnb35 := NB276_278.out
          have hnc35 := NB278_276.out
          have hcz36_0 : wr.cell? ⟨gb276, 0, none⟩ = some (.int .i64 x277000_1) := (blk_cell BK276.out 0).trans rfl
          have hcz36_1 : wr.cell? ⟨gb276, 1, none⟩ = some (.int .i64 x277001_1) := (blk_cell BK276.out 1).trans rfl
          have hcz36_2 : wr.cell? ⟨gb276, 2, none⟩ = some (.int .i64 x277002_1) := (blk_cell BK276.out 2).trans rfl
          have hcz36_3 : wr.cell? ⟨gb276, 3, none⟩ = some (.int .i64 x277003_1) := (blk_cell BK276.out 3).trans rfl
          have hcz36_4 : wr.cell? ⟨gb276, 4, none⟩ = some (.int .i64 x277004_1) := (blk_cell BK276.out 4).trans rfl
          have hfz36_0 := blk_frozen BK276.out 0
          have hfz36_1 := blk_frozen BK276.out 1
          have hfz36_2 := blk_frozen BK276.out 2
          have hfz36_3 := blk_frozen BK276.out 3
          have hfz36_4 := blk_frozen BK276.out 4
          have hnb37 := NB277_278.out
          have hnc37 := NB278_277.out
          have hcz38_0 : wr.cell? ⟨gb277, 0, none⟩ = some (.int .i64 t288) := (blk_cell BK277.out 0).trans rfl
          have hcz38_1 : wr.cell? ⟨gb277, 1, none⟩ = some (.int .i64 t289) := (blk_cell BK277.out 1).trans rfl
          have hcz38_2 : wr.cell? ⟨gb277, 2, none⟩ = some (.int .i64 t290) := (blk_cell BK277.out 2).trans rfl
          have hcz38_3 : wr.cell? ⟨gb277, 3, none⟩ = some (.int .i64 t291) := (blk_cell BK277.out 3).trans rfl
          have hcz38_4 : wr.cell? ⟨gb277, 4, none⟩ = some (.int .i64 t292) := (blk_cell BK277.out 4).trans rfl
          have hfz38_0 := blk_frozen BK277.out 0
          have hfz38_1 := blk_frozen BK277.out 1
          have hfz38_2 := blk_frozen BK277.out 2
          have hfz38_3 := blk_frozen BK277.out 3
          have hfz38_4 := blk_frozen BK277.out 4
          go_wp2_with (first | ((with_reducible refine gate_callee (f := 69) rfl ?_); refine goesL_ (some 25) rfl rfl Tryz.func69 (by kernel_rfl) rfl #[.agg #[.int .i64 x277000_1, .int .i64 x277001_1, .int .i64 x277002_1, .int .i64 x277003_1, .int .i64 x277004_1]] rfl (by (try simp only [List.map_toArray, List.map_cons, List.map_nil]); first | done | rfl | (simp only [List.length_drop, List.length_take]; rfl)) ?_; (with_reducible refine (spoondriftref01_times.calls x277000_1 x277001_1 x277002_1 x277003_1 x277004_1 t293 t294 t295 t296 t297 _ A33.out).mono ?_); rintro e w39 ⟨rfl, hb⟩; refine ⟨_, rfl, ?_⟩; have n0_ := Aside0.mk (blk_below (g := gb276) (o := .cells #[.int .i64 x277000_1, .int .i64 x277001_1, .int .i64 x277002_1, .int .i64 x277003_1, .int .i64 x277004_1] 23 (0, 0)) (by (with_reducible repeat (first | refine blk_drewN ?_ _ | refine blk_drew ?_ | refine blk_alloc ?_ _)); exact BK276.out) hb); have n1_ := Aside0.mk (blk_below (g := gb277) (o := .cells #[.int .i64 t288, .int .i64 t289, .int .i64 t290, .int .i64 t291, .int .i64 t292] 23 (0, 0)) (by (with_reducible repeat (first | refine blk_drewN ?_ _ | refine blk_drew ?_ | refine blk_alloc ?_ _)); exact BK277.out) hb); have n2_ := Aside0.mk (blk_below (g := gb278) (o := .cells #[.int .i64 0, .int .i64 0, .int .i64 0, .int .i64 0, .int .i64 0] 23 (0, 0)) (by (with_reducible repeat (first | refine blk_drewN ?_ _ | refine blk_drew ?_ | refine blk_alloc ?_ _)); exact BK278.out) hb); have n3_ := Aside0.mk (below_step (by repeat (first | (with_reducible first | exact HB.out | apply below_alloc | apply pw_below_drewN | apply below_drew1 | refine below_set ?_ GE276.out | refine below_set ?_ GE277.out | refine below_set ?_ GE278.out) | exact HB.out)) hb); clear BK276; clear BK277; clear BK278; clear HB; have BK276 := n0_; have BK277 := n1_; have BK278 := n2_; have HB := n3_; clear n0_ n1_ n2_ n3_; (try clear hb); (try clear hb2); (try clear hk); (try clear hi); have hcz40_0 : w39.cell? ⟨gb276, 0, none⟩ = some (.int .i64 x277000_1) := (blk_cell BK276.out 0).trans rfl; have hcz40_1 : w39.cell? ⟨gb276, 1, none⟩ = some (.int .i64 x277001_1) := (blk_cell BK276.out 1).trans rfl; have hcz40_2 : w39.cell? ⟨gb276, 2, none⟩ = some (.int .i64 x277002_1) := (blk_cell BK276.out 2).trans rfl; have hcz40_3 : w39.cell? ⟨gb276, 3, none⟩ = some (.int .i64 x277003_1) := (blk_cell BK276.out 3).trans rfl; have hcz40_4 : w39.cell? ⟨gb276, 4, none⟩ = some (.int .i64 x277004_1) := (blk_cell BK276.out 4).trans rfl; have hfz40_0 := blk_frozen BK276.out 0; have hfz40_1 := blk_frozen BK276.out 1; have hfz40_2 := blk_frozen BK276.out 2; have hfz40_3 := blk_frozen BK276.out 3; have hfz40_4 := blk_frozen BK276.out 4))
          go_roundg k1
          case measure => have := HK1.out; omega
          case rel => exact ⟨(t293), (t294), (t295), (t296), (wrap64 (t297 + 1)), H', ⟨by have := HK1.out; omega⟩, ⟨by (with_reducible repeat (first | refine blk_drewN ?_ _ | refine blk_drew ?_ | refine blk_alloc ?_ _)); refine blk_put (cs := #[.int .i64 t293, .int .i64 t294, .int .i64 t295, .int .i64 t296, .int .i64 t297]) ?_ 4 _ rfl; (with_reducible repeat (first | refine blk_drewN ?_ _ | refine blk_drew ?_ | refine blk_alloc ?_ _)); refine blk_put (cs := #[.int .i64 t293, .int .i64 t294, .int .i64 t295, .int .i64 t296, .int .i64 x277004_1]) ?_ 4 _ rfl; (with_reducible repeat (first | refine blk_drewN ?_ _ | refine blk_drew ?_ | refine blk_alloc ?_ _)); refine blk_put (cs := #[.int .i64 t293, .int .i64 t294, .int .i64 t295, .int .i64 x277003_1, .int .i64 x277004_1]) ?_ 3 _ rfl; (with_reducible repeat (first | refine blk_drewN ?_ _ | refine blk_drew ?_ | refine blk_alloc ?_ _)); refine blk_put (cs := #[.int .i64 t293, .int .i64 t294, .int .i64 x277002_1, .int .i64 x277003_1, .int .i64 x277004_1]) ?_ 2 _ rfl; (with_reducible repeat (first | refine blk_drewN ?_ _ | refine blk_drew ?_ | refine blk_alloc ?_ _)); refine blk_put (cs := #[.int .i64 t293, .int .i64 x277001_1, .int .i64 x277002_1, .int .i64 x277003_1, .int .i64 x277004_1]) ?_ 1 _ rfl; (with_reducible repeat (first | refine blk_drewN ?_ _ | refine blk_drew ?_ | refine blk_alloc ?_ _)); refine blk_put (cs := #[.int .i64 x277000_1, .int .i64 x277001_1, .int .i64 x277002_1, .int .i64 x277003_1, .int .i64 x277004_1]) ?_ 0 _ rfl; (with_reducible repeat (first | refine blk_drewN ?_ _ | refine blk_drew ?_ | refine blk_alloc ?_ _)); exact BK276.out⟩, ⟨by (with_reducible repeat (first | refine blk_drewN ?_ _ | refine blk_drew ?_ | refine blk_alloc ?_ _)); refine blk_far ?_ NB277_276.out _; (with_reducible repeat (first | refine blk_drewN ?_ _ | refine blk_drew ?_ | refine blk_alloc ?_ _)); refine blk_far ?_ NB277_276.out _; (with_reducible repeat (first | refine blk_drewN ?_ _ | refine blk_drew ?_ | refine blk_alloc ?_ _)); refine blk_far ?_ NB277_276.out _; (with_reducible repeat (first | refine blk_drewN ?_ _ | refine blk_drew ?_ | refine blk_alloc ?_ _)); refine blk_far ?_ NB277_276.out _; (with_reducible repeat (first | refine blk_drewN ?_ _ | refine blk_drew ?_ | refine blk_alloc ?_ _)); refine blk_far ?_ NB277_276.out _; (with_reducible repeat (first | refine blk_drewN ?_ _ | refine blk_drew ?_ | refine blk_alloc ?_ _)); refine blk_far ?_ NB277_276.out _; (with_reducible repeat (first | refine blk_drewN ?_ _ | refine blk_drew ?_ | refine blk_alloc ?_ _)); exact BK277.out⟩, ⟨by (with_reducible repeat (first | refine blk_drewN ?_ _ | refine blk_drew ?_ | refine blk_alloc ?_ _)); refine blk_far ?_ NB278_276.out _; (with_reducible repeat (first | refine blk_drewN ?_ _ | refine blk_drew ?_ | refine blk_alloc ?_ _)); refine blk_far ?_ NB278_276.out _; (with_reducible repeat (first | refine blk_drewN ?_ _ | refine blk_drew ?_ | refine blk_alloc ?_ _)); refine blk_far ?_ NB278_276.out _; (with_reducible repeat (first | refine blk_drewN ?_ _ | refine blk_drew ?_ | refine blk_alloc ?_ _)); refine blk_far ?_ NB278_276.out _; (with_reducible repeat (first | refine blk_drewN ?_ _ | refine blk_drew ?_ | refine blk_alloc ?_ _)); refine blk_far ?_ NB278_276.out _; (with_reducible repeat (first | refine blk_drewN ?_ _ | refine blk_drew ?_ | refine blk_alloc ?_ _)); refine blk_far ?_ NB278_276.out _; (with_reducible repeat (first | refine blk_drewN ?_ _ | refine blk_drew ?_ | refine blk_alloc ?_ _)); exact BK278.out⟩, ⟨by repeat (first | (with_reducible first | exact HB.out | apply below_alloc | apply pw_below_drewN | apply below_drew1 | refine below_set ?_ GE276.out | refine below_set ?_ GE277.out | refine below_set ?_ GE278.out) | exact HB.out)⟩⟩
        · rw [if_neg c32] at H
          have c32b0 : decide (x277004_1 < t292) = false := decide_eq_false c32
          clear c32
          have H' := Aside0.mk H
          clear H
          have hnb41 := NB276_277.out
          have hnc41 := NB277_276.out
          have hnb42 := NB276_278.out
          have hnc42 := NB278_276.out
          have hcz43_0 : wr.cell? ⟨gb276, 0, none⟩ = some (.int .i64 x277000_1) := (blk_cell BK276.out 0).trans rfl
          have hcz43_1 : wr.cell? ⟨gb276, 1, none⟩ = some (.int .i64 x277001_1) := (blk_cell BK276.out 1).trans rfl
          have hcz43_2 : wr.cell? ⟨gb276, 2, none⟩ = some (.int .i64 x277002_1) := (blk_cell BK276.out 2).trans rfl
          have hcz43_3 : wr.cell? ⟨gb276, 3, none⟩ = some (.int .i64 x277003_1) := (blk_cell BK276.out 3).trans rfl
          have hcz43_4 : wr.cell? ⟨gb276, 4, none⟩ = some (.int .i64 x277004_1) := (blk_cell BK276.out 4).trans rfl
          have hfz43_0 := blk_frozen BK276.out 0
          have hfz43_1 := blk_frozen BK276.out 1
          have hfz43_2 := blk_frozen BK276.out 2
          have hfz43_3 := blk_frozen BK276.out 3
          have hfz43_4 := blk_frozen BK276.out 4
          have hnb44 := NB277_278.out
          have hnc44 := NB278_277.out
          have hcz45_0 : wr.cell? ⟨gb277, 0, none⟩ = some (.int .i64 t288) := (blk_cell BK277.out 0).trans rfl
          have hcz45_1 : wr.cell? ⟨gb277, 1, none⟩ = some (.int .i64 t289) := (blk_cell BK277.out 1).trans rfl
          have hcz45_2 : wr.cell? ⟨gb277, 2, none⟩ = some (.int .i64 t290) := (blk_cell BK277.out 2).trans rfl
          have hcz45_3 : wr.cell? ⟨gb277, 3, none⟩ = some (.int .i64 t291) := (blk_cell BK277.out 3).trans rfl
          have hcz45_4 : wr.cell? ⟨gb277, 4, none⟩ = some (.int .i64 t292) := (blk_cell BK277.out 4).trans rfl
          have hfz45_0 := blk_frozen BK277.out 0
          have hfz45_1 := blk_frozen BK277.out 1
          have hfz45_2 := blk_frozen BK277.out 2
          have hfz45_3 := blk_frozen BK277.out 3
          have hfz45_4 := blk_frozen BK277.out 4
          go_wp2
          (try simp only [Act.put, List.setIfInBounds_toArray, List.set_cons_zero, List.set_cons_succ])
          go_loopg [] k1 (fun kq w' => ∃ (x278000_2 : Int) (x278001_2 : Int) (x278002_2 : Int) (x278003_2 : Int) (x278004_2 : Int), Aside0 (spoondriftref01_Add.l1 kq x277000_1 x277001_1 x277002_1 x277003_1 x277004_1 x278000_2 x278001_2 x278002_2 x278003_2 x278004_2 = some (r1, r2, r3, r4, r5, r6)) ∧ Aside0 (kq ≤ k1) ∧ Aside0 (w'.heap[gb276]? = some (.cells #[.int .i64 x277000_1, .int .i64 x277001_1, .int .i64 x277002_1, .int .i64 x277003_1, .int .i64 x277004_1] 23 (0, 0))) ∧ Aside0 (w'.heap[gb277]? = some (.cells #[.int .i64 x278000_2, .int .i64 x278001_2, .int .i64 x278002_2, .int .i64 x278003_2, .int .i64 x278004_2] 23 (0, 0))) ∧ Aside0 (w'.heap[gb278]? = some (.cells #[.int .i64 0, .int .i64 0, .int .i64 0, .int .i64 0, .int .i64 0] 23 (0, 0))) ∧ Aside0 (Below w.heap.size w w'))
          case atStart => exact ⟨(t288), (t289), (t290), (t291), (t292), H', ⟨Nat.le_refl _⟩, ⟨by (with_reducible repeat (first | refine blk_drewN ?_ _ | refine blk_drew ?_ | refine blk_alloc ?_ _)); exact BK276.out⟩, ⟨by (with_reducible repeat (first | refine blk_drewN ?_ _ | refine blk_drew ?_ | refine blk_alloc ?_ _)); exact BK277.out⟩, ⟨by (with_reducible repeat (first | refine blk_drewN ?_ _ | refine blk_drew ?_ | refine blk_alloc ?_ _)); exact BK278.out⟩, ⟨by repeat (first | (with_reducible first | exact HB.out | apply below_alloc | apply pw_below_drewN | apply below_drew1 | refine below_set ?_ GE276.out | refine below_set ?_ GE277.out | refine below_set ?_ GE278.out) | exact HB.out)⟩⟩
          case round =>
            clear H'
            try clear c1
            try clear c2
            try clear p2
            try clear c3
            try clear c4
            try clear c4b0
            try clear c4b1
            try clear c5
            try clear c6
            try clear p6
            try clear c10
            try clear c11
            try clear c13
            try clear c26
            try clear c29
            try clear c30
            try clear c32
            try clear c32b0
            try clear c34
            try clear c35
            try clear c37
            try clear c41
            try clear c42
            try clear c44
            try clear hcz12_0
            try clear hcz12_1
            try clear hcz12_2
            try clear hcz12_3
            try clear hcz12_4
            try clear hcz14_0
            try clear hcz14_1
            try clear hcz14_2
            try clear hcz14_3
            try clear hcz14_4
            try clear hcz36_0
            try clear hcz36_1
            try clear hcz36_2
            try clear hcz36_3
            try clear hcz36_4
            try clear hcz38_0
            try clear hcz38_1
            try clear hcz38_2
            try clear hcz38_3
            try clear hcz38_4
            try clear hcz40_0
            try clear hcz40_1
            try clear hcz40_2
            try clear hcz40_3
            try clear hcz40_4
            try clear hcz43_0
            try clear hcz43_1
            try clear hcz43_2
            try clear hcz43_3
            try clear hcz43_4
            try clear hcz45_0
            try clear hcz45_1
            try clear hcz45_2
            try clear hcz45_3
            try clear hcz45_4
            try clear hfz12_0
            try clear hfz12_1
            try clear hfz12_2
            try clear hfz12_3
            try clear hfz12_4
            try clear hfz14_0
            try clear hfz14_1
            try clear hfz14_2
            try clear hfz14_3
            try clear hfz14_4
            try clear hfz36_0
            try clear hfz36_1
            try clear hfz36_2
            try clear hfz36_3
            try clear hfz36_4
            try clear hfz38_0
            try clear hfz38_1
            try clear hfz38_2
            try clear hfz38_3
            try clear hfz38_4
            try clear hfz40_0
            try clear hfz40_1
            try clear hfz40_2
            try clear hfz40_3
            try clear hfz40_4
            try clear hfz43_0
            try clear hfz43_1
            try clear hfz43_2
            try clear hfz43_3
            try clear hfz43_4
            try clear hfz45_0
            try clear hfz45_1
            try clear hfz45_2
            try clear hfz45_3
            try clear hfz45_4
            try clear p2
            obtain ⟨x278000_2, x278001_2, x278002_2, x278003_2, x278004_2, HA, HK2, BK276, BK277, BK278, HB⟩ := hrel
            cases gk with
            | zero => exact absurd HA.out (by simp [spoondriftref01_Add.l1])
            | succ k2 =>
              have H := HA.out
              clear HA
              simp only [spoondriftref01_Add.l1] at H
              by_cases c46 : x278004_2 < x277004_1
              · rw [if_pos c46] at H
                have c46b0 : decide (x278004_2 < x277004_1) = true := decide_eq_true c46
                clear c46
                replace H := Option.bind_eq_some_iff.mp H
                obtain ⟨⟨t298, t299, t300, t301, t302⟩, A470, H⟩ := H
                replace H : (spoondriftref01_Add.l1 k2 x277000_1 x277001_1 x277002_1 x277003_1 x277004_1 t298 t299 t300 t301 (wrap64 (t302 + 1))) = some (r1, r2, r3, r4, r5, r6) := H
                have A47 := Aside0.mk A470
                clear A470
                have H' := Aside0.mk H
                clear H
                have hnb48 := NB277_276.out
                have hnc48 := NB276_277.out
                have hnb49 := NB277_278.out
                have hnc49 := NB278_277.out
                have hcz50_0 : wr.cell? ⟨gb277, 0, none⟩ = some (.int .i64 x278000_2) := (blk_cell BK277.out 0).trans rfl
                have hcz50_1 : wr.cell? ⟨gb277, 1, none⟩ = some (.int .i64 x278001_2) := (blk_cell BK277.out 1).trans rfl
                have hcz50_2 : wr.cell? ⟨gb277, 2, none⟩ = some (.int .i64 x278002_2) := (blk_cell BK277.out 2).trans rfl
                have hcz50_3 : wr.cell? ⟨gb277, 3, none⟩ = some (.int .i64 x278003_2) := (blk_cell BK277.out 3).trans rfl
                have hcz50_4 : wr.cell? ⟨gb277, 4, none⟩ = some (.int .i64 x278004_2) := (blk_cell BK277.out 4).trans rfl
                have hfz50_0 := blk_frozen BK277.out 0
                have hfz50_1 := blk_frozen BK277.out 1
                have hfz50_2 := blk_frozen BK277.out 2
                have hfz50_3 := blk_frozen BK277.out 3
                have hfz50_4 := blk_frozen BK277.out 4
                have hnb51 := NB276_278.out
                have hnc51 := NB278_276.out
                have hcz52_0 : wr.cell? ⟨gb276, 0, none⟩ = some (.int .i64 x277000_1) := (blk_cell BK276.out 0).trans rfl
                have hcz52_1 : wr.cell? ⟨gb276, 1, none⟩ = some (.int .i64 x277001_1) := (blk_cell BK276.out 1).trans rfl
                have hcz52_2 : wr.cell? ⟨gb276, 2, none⟩ = some (.int .i64 x277002_1) := (blk_cell BK276.out 2).trans rfl
                have hcz52_3 : wr.cell? ⟨gb276, 3, none⟩ = some (.int .i64 x277003_1) := (blk_cell BK276.out 3).trans rfl
                have hcz52_4 : wr.cell? ⟨gb276, 4, none⟩ = some (.int .i64 x277004_1) := (blk_cell BK276.out 4).trans rfl
                have hfz52_0 := blk_frozen BK276.out 0
                have hfz52_1 := blk_frozen BK276.out 1
                have hfz52_2 := blk_frozen BK276.out 2
                have hfz52_3 := blk_frozen BK276.out 3
                have hfz52_4 := blk_frozen BK276.out 4
                go_wp2_with (first | ((with_reducible refine gate_callee (f := 69) rfl ?_); refine goesL_ (some 36) rfl rfl Tryz.func69 (by kernel_rfl) rfl #[.agg #[.int .i64 x278000_2, .int .i64 x278001_2, .int .i64 x278002_2, .int .i64 x278003_2, .int .i64 x278004_2]] rfl (by (try simp only [List.map_toArray, List.map_cons, List.map_nil]); first | done | rfl | (simp only [List.length_drop, List.length_take]; rfl)) ?_; (with_reducible refine (spoondriftref01_times.calls x278000_2 x278001_2 x278002_2 x278003_2 x278004_2 t298 t299 t300 t301 t302 _ A47.out).mono ?_); rintro e w53 ⟨rfl, hb⟩; refine ⟨_, rfl, ?_⟩; have n0_ := Aside0.mk (blk_below (g := gb276) (o := .cells #[.int .i64 x277000_1, .int .i64 x277001_1, .int .i64 x277002_1, .int .i64 x277003_1, .int .i64 x277004_1] 23 (0, 0)) (by (with_reducible repeat (first | refine blk_drewN ?_ _ | refine blk_drew ?_ | refine blk_alloc ?_ _)); exact BK276.out) hb); have n1_ := Aside0.mk (blk_below (g := gb277) (o := .cells #[.int .i64 x278000_2, .int .i64 x278001_2, .int .i64 x278002_2, .int .i64 x278003_2, .int .i64 x278004_2] 23 (0, 0)) (by (with_reducible repeat (first | refine blk_drewN ?_ _ | refine blk_drew ?_ | refine blk_alloc ?_ _)); exact BK277.out) hb); have n2_ := Aside0.mk (blk_below (g := gb278) (o := .cells #[.int .i64 0, .int .i64 0, .int .i64 0, .int .i64 0, .int .i64 0] 23 (0, 0)) (by (with_reducible repeat (first | refine blk_drewN ?_ _ | refine blk_drew ?_ | refine blk_alloc ?_ _)); exact BK278.out) hb); have n3_ := Aside0.mk (below_step (by repeat (first | (with_reducible first | exact HB.out | apply below_alloc | apply pw_below_drewN | apply below_drew1 | refine below_set ?_ GE276.out | refine below_set ?_ GE277.out | refine below_set ?_ GE278.out) | exact HB.out)) hb); clear BK276; clear BK277; clear BK278; clear HB; have BK276 := n0_; have BK277 := n1_; have BK278 := n2_; have HB := n3_; clear n0_ n1_ n2_ n3_; (try clear hb); (try clear hb2); (try clear hk); (try clear hi); have hcz54_0 : w53.cell? ⟨gb277, 0, none⟩ = some (.int .i64 x278000_2) := (blk_cell BK277.out 0).trans rfl; have hcz54_1 : w53.cell? ⟨gb277, 1, none⟩ = some (.int .i64 x278001_2) := (blk_cell BK277.out 1).trans rfl; have hcz54_2 : w53.cell? ⟨gb277, 2, none⟩ = some (.int .i64 x278002_2) := (blk_cell BK277.out 2).trans rfl; have hcz54_3 : w53.cell? ⟨gb277, 3, none⟩ = some (.int .i64 x278003_2) := (blk_cell BK277.out 3).trans rfl; have hcz54_4 : w53.cell? ⟨gb277, 4, none⟩ = some (.int .i64 x278004_2) := (blk_cell BK277.out 4).trans rfl; have hfz54_0 := blk_frozen BK277.out 0; have hfz54_1 := blk_frozen BK277.out 1; have hfz54_2 := blk_frozen BK277.out 2; have hfz54_3 := blk_frozen BK277.out 3; have hfz54_4 := blk_frozen BK277.out 4))
                go_roundg k2
                case measure => have := HK1.out; have := HK2.out; omega
                case rel => exact ⟨(t298), (t299), (t300), (t301), (wrap64 (t302 + 1)), H', ⟨by have := HK1.out; have := HK2.out; omega⟩, ⟨by (with_reducible repeat (first | refine blk_drewN ?_ _ | refine blk_drew ?_ | refine blk_alloc ?_ _)); refine blk_far ?_ NB276_277.out _; (with_reducible repeat (first | refine blk_drewN ?_ _ | refine blk_drew ?_ | refine blk_alloc ?_ _)); refine blk_far ?_ NB276_277.out _; (with_reducible repeat (first | refine blk_drewN ?_ _ | refine blk_drew ?_ | refine blk_alloc ?_ _)); refine blk_far ?_ NB276_277.out _; (with_reducible repeat (first | refine blk_drewN ?_ _ | refine blk_drew ?_ | refine blk_alloc ?_ _)); refine blk_far ?_ NB276_277.out _; (with_reducible repeat (first | refine blk_drewN ?_ _ | refine blk_drew ?_ | refine blk_alloc ?_ _)); refine blk_far ?_ NB276_277.out _; (with_reducible repeat (first | refine blk_drewN ?_ _ | refine blk_drew ?_ | refine blk_alloc ?_ _)); refine blk_far ?_ NB276_277.out _; (with_reducible repeat (first | refine blk_drewN ?_ _ | refine blk_drew ?_ | refine blk_alloc ?_ _)); exact BK276.out⟩, ⟨by (with_reducible repeat (first | refine blk_drewN ?_ _ | refine blk_drew ?_ | refine blk_alloc ?_ _)); refine blk_put (cs := #[.int .i64 t298, .int .i64 t299, .int .i64 t300, .int .i64 t301, .int .i64 t302]) ?_ 4 _ rfl; (with_reducible repeat (first | refine blk_drewN ?_ _ | refine blk_drew ?_ | refine blk_alloc ?_ _)); refine blk_put (cs := #[.int .i64 t298, .int .i64 t299, .int .i64 t300, .int .i64 t301, .int .i64 x278004_2]) ?_ 4 _ rfl; (with_reducible repeat (first | refine blk_drewN ?_ _ | refine blk_drew ?_ | refine blk_alloc ?_ _)); refine blk_put (cs := #[.int .i64 t298, .int .i64 t299, .int .i64 t300, .int .i64 x278003_2, .int .i64 x278004_2]) ?_ 3 _ rfl; (with_reducible repeat (first | refine blk_drewN ?_ _ | refine blk_drew ?_ | refine blk_alloc ?_ _)); refine blk_put (cs := #[.int .i64 t298, .int .i64 t299, .int .i64 x278002_2, .int .i64 x278003_2, .int .i64 x278004_2]) ?_ 2 _ rfl; (with_reducible repeat (first | refine blk_drewN ?_ _ | refine blk_drew ?_ | refine blk_alloc ?_ _)); refine blk_put (cs := #[.int .i64 t298, .int .i64 x278001_2, .int .i64 x278002_2, .int .i64 x278003_2, .int .i64 x278004_2]) ?_ 1 _ rfl; (with_reducible repeat (first | refine blk_drewN ?_ _ | refine blk_drew ?_ | refine blk_alloc ?_ _)); refine blk_put (cs := #[.int .i64 x278000_2, .int .i64 x278001_2, .int .i64 x278002_2, .int .i64 x278003_2, .int .i64 x278004_2]) ?_ 0 _ rfl; (with_reducible repeat (first | refine blk_drewN ?_ _ | refine blk_drew ?_ | refine blk_alloc ?_ _)); exact BK277.out⟩, ⟨by (with_reducible repeat (first | refine blk_drewN ?_ _ | refine blk_drew ?_ | refine blk_alloc ?_ _)); refine blk_far ?_ NB278_277.out _; (with_reducible repeat (first | refine blk_drewN ?_ _ | refine blk_drew ?_ | refine blk_alloc ?_ _)); refine blk_far ?_ NB278_277.out _; (with_reducible repeat (first | refine blk_drewN ?_ _ | refine blk_drew ?_ | refine blk_alloc ?_ _)); refine blk_far ?_ NB278_277.out _; (with_reducible repeat (first | refine blk_drewN ?_ _ | refine blk_drew ?_ | refine blk_alloc ?_ _)); refine blk_far ?_ NB278_277.out _; (with_reducible repeat (first | refine blk_drewN ?_ _ | refine blk_drew ?_ | refine blk_alloc ?_ _)); refine blk_far ?_ NB278_277.out _; (with_reducible repeat (first | refine blk_drewN ?_ _ | refine blk_drew ?_ | refine blk_alloc ?_ _)); refine blk_far ?_ NB278_277.out _; (with_reducible repeat (first | refine blk_drewN ?_ _ | refine blk_drew ?_ | refine blk_alloc ?_ _)); exact BK278.out⟩, ⟨by repeat (first | (with_reducible first | exact HB.out | apply below_alloc | apply pw_below_drewN | apply below_drew1 | refine below_set ?_ GE276.out | refine below_set ?_ GE277.out | refine below_set ?_ GE278.out) | exact HB.out)⟩⟩
              · rw [if_neg c46] at H
                have c46b0 : decide (x278004_2 < x277004_1) = false := decide_eq_false c46
                clear c46
                replace H := Option.bind_eq_some_iff.mp H
                obtain ⟨⟨t303, t304, t305, t306, t307, t308⟩, A550, H⟩ := H
                replace H : (some (t303, t304, t305, t306, t307, t308)) = some (r1, r2, r3, r4, r5, r6) := H
                have A55 := Aside0.mk A550
                clear A550
                simp only [Option.some.injEq, Prod.mk.injEq] at H
                obtain ⟨rfl, rfl, rfl, rfl, rfl, rfl⟩ := H
                have hnb56 := NB277_276.out
                have hnc56 := NB276_277.out
                have hnb57 := NB277_278.out
                have hnc57 := NB278_277.out
                have hcz58_0 : wr.cell? ⟨gb277, 0, none⟩ = some (.int .i64 x278000_2) := (blk_cell BK277.out 0).trans rfl
                have hcz58_1 : wr.cell? ⟨gb277, 1, none⟩ = some (.int .i64 x278001_2) := (blk_cell BK277.out 1).trans rfl
                have hcz58_2 : wr.cell? ⟨gb277, 2, none⟩ = some (.int .i64 x278002_2) := (blk_cell BK277.out 2).trans rfl
                have hcz58_3 : wr.cell? ⟨gb277, 3, none⟩ = some (.int .i64 x278003_2) := (blk_cell BK277.out 3).trans rfl
                have hcz58_4 : wr.cell? ⟨gb277, 4, none⟩ = some (.int .i64 x278004_2) := (blk_cell BK277.out 4).trans rfl
                have hfz58_0 := blk_frozen BK277.out 0
                have hfz58_1 := blk_frozen BK277.out 1
                have hfz58_2 := blk_frozen BK277.out 2
                have hfz58_3 := blk_frozen BK277.out 3
                have hfz58_4 := blk_frozen BK277.out 4
                have hnb59 := NB276_278.out
                have hnc59 := NB278_276.out
                have hcz60_0 : wr.cell? ⟨gb276, 0, none⟩ = some (.int .i64 x277000_1) := (blk_cell BK276.out 0).trans rfl
                have hcz60_1 : wr.cell? ⟨gb276, 1, none⟩ = some (.int .i64 x277001_1) := (blk_cell BK276.out 1).trans rfl
                have hcz60_2 : wr.cell? ⟨gb276, 2, none⟩ = some (.int .i64 x277002_1) := (blk_cell BK276.out 2).trans rfl
                have hcz60_3 : wr.cell? ⟨gb276, 3, none⟩ = some (.int .i64 x277003_1) := (blk_cell BK276.out 3).trans rfl
                have hcz60_4 : wr.cell? ⟨gb276, 4, none⟩ = some (.int .i64 x277004_1) := (blk_cell BK276.out 4).trans rfl
                have hfz60_0 := blk_frozen BK276.out 0
                have hfz60_1 := blk_frozen BK276.out 1
                have hfz60_2 := blk_frozen BK276.out 2
                have hfz60_3 := blk_frozen BK276.out 3
                have hfz60_4 := blk_frozen BK276.out 4
                go_wp2_with (first | ((with_reducible refine gate_callee (f := 67) rfl ?_); refine goesL_ (some 64) rfl rfl Tryz.func67 (by kernel_rfl) rfl #[.agg #[.int .i64 (wrap64 (x277000_1 + x278000_2)), .int .i64 (wrap64 (x277001_1 + x278001_2)), .int .i64 (wrap64 (x277002_1 + x278002_2)), .int .i64 (wrap64 (x277003_1 + x278003_2)), .int .i64 x277004_1]] rfl (by (try simp only [List.map_toArray, List.map_cons, List.map_nil]); first | done | rfl | (simp only [List.length_drop, List.length_take]; rfl)) ?_; (with_reducible refine (spoondriftref01_fits.calls k2 (wrap64 (x277000_1 + x278000_2)) (wrap64 (x277001_1 + x278001_2)) (wrap64 (x277002_1 + x278002_2)) (wrap64 (x277003_1 + x278003_2)) x277004_1 t303 t304 t305 t306 t307 t308 _ A55.out).mono ?_); rintro e w61 ⟨rfl, hb⟩; refine ⟨_, rfl, ?_⟩; have n0_ := Aside0.mk (blk_below (g := gb276) (o := .cells #[.int .i64 x277000_1, .int .i64 x277001_1, .int .i64 x277002_1, .int .i64 x277003_1, .int .i64 x277004_1] 23 (0, 0)) (by (with_reducible repeat (first | refine blk_drewN ?_ _ | refine blk_drew ?_ | refine blk_alloc ?_ _)); exact BK276.out) hb); have n1_ := Aside0.mk (blk_below (g := gb277) (o := .cells #[.int .i64 x278000_2, .int .i64 x278001_2, .int .i64 x278002_2, .int .i64 x278003_2, .int .i64 x278004_2] 23 (0, 0)) (by (with_reducible repeat (first | refine blk_drewN ?_ _ | refine blk_drew ?_ | refine blk_alloc ?_ _)); exact BK277.out) hb); have n2_ := Aside0.mk (blk_below (g := gb278) (o := .cells #[.int .i64 0, .int .i64 0, .int .i64 0, .int .i64 0, .int .i64 0] 23 (0, 0)) (by (with_reducible repeat (first | refine blk_drewN ?_ _ | refine blk_drew ?_ | refine blk_alloc ?_ _)); exact BK278.out) hb); have n3_ := Aside0.mk (below_step (by repeat (first | (with_reducible first | exact HB.out | apply below_alloc | apply pw_below_drewN | apply below_drew1 | refine below_set ?_ GE276.out | refine below_set ?_ GE277.out | refine below_set ?_ GE278.out) | exact HB.out)) hb); clear BK276; clear BK277; clear BK278; clear HB; have BK276 := n0_; have BK277 := n1_; have BK278 := n2_; have HB := n3_; clear n0_ n1_ n2_ n3_; (try clear hb); (try clear hb2); (try clear hk); (try clear hi); have hcz62_0 : w61.cell? ⟨gb278, 0, none⟩ = some (.int .i64 0) := (blk_cell BK278.out 0).trans rfl; have hcz62_1 : w61.cell? ⟨gb278, 1, none⟩ = some (.int .i64 0) := (blk_cell BK278.out 1).trans rfl; have hcz62_2 : w61.cell? ⟨gb278, 2, none⟩ = some (.int .i64 0) := (blk_cell BK278.out 2).trans rfl; have hcz62_3 : w61.cell? ⟨gb278, 3, none⟩ = some (.int .i64 0) := (blk_cell BK278.out 3).trans rfl; have hcz62_4 : w61.cell? ⟨gb278, 4, none⟩ = some (.int .i64 0) := (blk_cell BK278.out 4).trans rfl; have hfz62_0 := blk_frozen BK278.out 0; have hfz62_1 := blk_frozen BK278.out 1; have hfz62_2 := blk_frozen BK278.out 2; have hfz62_3 := blk_frozen BK278.out 3; have hfz62_4 := blk_frozen BK278.out 4))
                refine bodyPost_ret (results_ct rfl _ _ gb278 23 #[.int .i64 t303, .int .i64 t304, .int .i64 t305, .int .i64 t306, .int .i64 t307] (0, 0) _ rfl (by (with_reducible repeat (first | refine blk_drewN ?_ _ | refine blk_drew ?_ | refine blk_alloc ?_ _)); refine blk_put (cs := #[.int .i64 t303, .int .i64 t304, .int .i64 t305, .int .i64 t306, .int .i64 0]) ?_ 4 _ rfl; (with_reducible repeat (first | refine blk_drewN ?_ _ | refine blk_drew ?_ | refine blk_alloc ?_ _)); refine blk_put (cs := #[.int .i64 t303, .int .i64 t304, .int .i64 t305, .int .i64 0, .int .i64 0]) ?_ 3 _ rfl; (with_reducible repeat (first | refine blk_drewN ?_ _ | refine blk_drew ?_ | refine blk_alloc ?_ _)); refine blk_put (cs := #[.int .i64 t303, .int .i64 t304, .int .i64 0, .int .i64 0, .int .i64 0]) ?_ 2 _ rfl; (with_reducible repeat (first | refine blk_drewN ?_ _ | refine blk_drew ?_ | refine blk_alloc ?_ _)); refine blk_put (cs := #[.int .i64 t303, .int .i64 0, .int .i64 0, .int .i64 0, .int .i64 0]) ?_ 1 _ rfl; (with_reducible repeat (first | refine blk_drewN ?_ _ | refine blk_drew ?_ | refine blk_alloc ?_ _)); refine blk_put (cs := #[.int .i64 0, .int .i64 0, .int .i64 0, .int .i64 0, .int .i64 0]) ?_ 0 _ rfl; (with_reducible repeat (first | refine blk_drewN ?_ _ | refine blk_drew ?_ | refine blk_alloc ?_ _)); exact BK278.out) Tryz.underlying23 rfl (by kernel_rfl)) rfl ?_
                exact ⟨by first | rfl | (simp [errW_none, errW_some] <;> rfl) | (simp [*, errW_none, errW_some] <;> rfl), by repeat (first | (with_reducible first | exact HB.out | apply below_alloc | apply pw_below_drewN | apply below_drew1 | refine below_set ?_ GE276.out | refine below_set ?_ GE277.out | refine below_set ?_ GE278.out) | exact HB.out)⟩
  · rw [if_neg c4] at H
    have c4b0 : (t282 == 0) = false := beq_eq_false_iff_ne.mpr c4
    have c4b1 : (t282 != 0) = true := bne_iff_ne.mpr c4
    simp only [Option.some.injEq, Prod.mk.injEq] at H
    obtain ⟨rfl, rfl, rfl, rfl, rfl, rfl⟩ := H
    go_enter Tryz.func30, Tryz.ntmps30
    go_wp2_with (first | ((with_reducible refine gate_dst (N := 2) rfl ?_); refine box_event ?hg (N := 2) ?hd (cs := #[.int .i64 a0_0, .int .i64 a0_1, .int .i64 a0_2, .int .i64 a0_3, .int .i64 a0_4]) (t := 23) ?hr ?_; (case hd => rfl); (case hg => rfl); (case hr => first | (go_simp; done) | (go_simp; rfl)); intro gb276 hg w63 hbox hb; have n0_ := Aside0.mk (below_step (by repeat (first | (with_reducible first | exact HB.out | apply below_alloc | apply pw_below_drewN | apply below_drew1) | exact HB.out)) hb); have n1_ := Aside0.mk (hbox); have n2_ := Aside0.mk ((by rw [hg]; exact (below_size (by repeat (first | (with_reducible first | exact HB.out | apply below_alloc | apply pw_below_drewN | apply below_drew1) | exact HB.out))) : w.heap.size ≤ gb276)); have n3_ := Aside0.mk ((by rw [hg]; exact (below_size (by repeat (first | (with_reducible first | exact HB.out | apply below_alloc | apply pw_below_drewN | apply below_drew1) | exact HB.out))) : w.heap.size ≤ gb276)); clear HB; have HB := n0_; have BK276 := n1_; have GW276 := n2_; have GE276 := n3_; clear n0_ n1_ n2_ n3_; clear hb hbox hg) | ((with_reducible refine gate_dst (N := 3) rfl ?_); refine box_event ?hg (N := 3) ?hd (cs := #[.int .i64 a1_0, .int .i64 a1_1, .int .i64 a1_2, .int .i64 a1_3, .int .i64 a1_4]) (t := 23) ?hr ?_; (case hd => rfl); (case hg => rfl); (case hr => first | (go_simp; done) | (go_simp; rfl)); intro gb277 hg w64 hbox hb; have n0_ := Aside0.mk (blk_below (g := gb276) (o := .cells #[.int .i64 a0_0, .int .i64 a0_1, .int .i64 a0_2, .int .i64 a0_3, .int .i64 a0_4] 23 (0, 0)) (by (with_reducible repeat (first | refine blk_drewN ?_ _ | refine blk_drew ?_ | refine blk_alloc ?_ _)); exact BK276.out) hb); have n1_ := Aside0.mk (below_step (by repeat (first | (with_reducible first | exact HB.out | apply below_alloc | apply pw_below_drewN | apply below_drew1 | refine below_set ?_ GE276.out) | exact HB.out)) hb); have n2_ := Aside0.mk (hbox); have n3_ := Aside0.mk ((by rw [hg]; exact (below_size (by repeat (first | (with_reducible first | exact HB.out | apply below_alloc | apply pw_below_drewN | apply below_drew1 | refine below_set ?_ GE276.out) | exact HB.out))) : w.heap.size ≤ gb277)); have n4_ := Aside0.mk ((by rw [hg]; exact (below_size (by repeat (first | (with_reducible first | exact HB.out | apply below_alloc | apply pw_below_drewN | apply below_drew1 | refine below_set ?_ GE276.out) | exact HB.out))) : w.heap.size ≤ gb277)); have n5_ := Aside0.mk ((by rw [hg]; exact Nat.ne_of_lt (blk_lt (g := gb276) (o := .cells #[.int .i64 a0_0, .int .i64 a0_1, .int .i64 a0_2, .int .i64 a0_3, .int .i64 a0_4] 23 (0, 0)) (by (with_reducible repeat (first | refine blk_drewN ?_ _ | refine blk_drew ?_ | refine blk_alloc ?_ _)); exact BK276.out)) : gb276 ≠ gb277)); have n6_ := Aside0.mk ((by rw [hg]; exact Nat.ne_of_gt (blk_lt (g := gb276) (o := .cells #[.int .i64 a0_0, .int .i64 a0_1, .int .i64 a0_2, .int .i64 a0_3, .int .i64 a0_4] 23 (0, 0)) (by (with_reducible repeat (first | refine blk_drewN ?_ _ | refine blk_drew ?_ | refine blk_alloc ?_ _)); exact BK276.out)) : gb277 ≠ gb276)); clear BK276; clear HB; have BK276 := n0_; have HB := n1_; have BK277 := n2_; have GW277 := n3_; have GE277 := n4_; have NB276_277 := n5_; have NB277_276 := n6_; clear n0_ n1_ n2_ n3_ n4_ n5_ n6_; clear hb hbox hg) | ((with_reducible refine gate_dst (N := 4) rfl ?_); refine box_event ?hg (N := 4) ?hd (cs := #[.int .i64 0, .int .i64 0, .int .i64 0, .int .i64 0, .int .i64 0]) (t := 23) ?hr ?_; (case hd => rfl); (case hg => rfl); (case hr => first | (go_simp; done) | (go_simp; rfl)); intro gb278 hg w65 hbox hb; have n0_ := Aside0.mk (blk_below (g := gb276) (o := .cells #[.int .i64 a0_0, .int .i64 a0_1, .int .i64 a0_2, .int .i64 a0_3, .int .i64 a0_4] 23 (0, 0)) (by (with_reducible repeat (first | refine blk_drewN ?_ _ | refine blk_drew ?_ | refine blk_alloc ?_ _)); exact BK276.out) hb); have n1_ := Aside0.mk (blk_below (g := gb277) (o := .cells #[.int .i64 a1_0, .int .i64 a1_1, .int .i64 a1_2, .int .i64 a1_3, .int .i64 a1_4] 23 (0, 0)) (by (with_reducible repeat (first | refine blk_drewN ?_ _ | refine blk_drew ?_ | refine blk_alloc ?_ _)); exact BK277.out) hb); have n2_ := Aside0.mk (below_step (by repeat (first | (with_reducible first | exact HB.out | apply below_alloc | apply pw_below_drewN | apply below_drew1 | refine below_set ?_ GE276.out | refine below_set ?_ GE277.out) | exact HB.out)) hb); have n3_ := Aside0.mk (hbox); have n4_ := Aside0.mk ((by rw [hg]; exact (below_size (by repeat (first | (with_reducible first | exact HB.out | apply below_alloc | apply pw_below_drewN | apply below_drew1 | refine below_set ?_ GE276.out | refine below_set ?_ GE277.out) | exact HB.out))) : w.heap.size ≤ gb278)); have n5_ := Aside0.mk ((by rw [hg]; exact (below_size (by repeat (first | (with_reducible first | exact HB.out | apply below_alloc | apply pw_below_drewN | apply below_drew1 | refine below_set ?_ GE276.out | refine below_set ?_ GE277.out) | exact HB.out))) : w.heap.size ≤ gb278)); have n6_ := Aside0.mk ((by rw [hg]; exact Nat.ne_of_lt (blk_lt (g := gb276) (o := .cells #[.int .i64 a0_0, .int .i64 a0_1, .int .i64 a0_2, .int .i64 a0_3, .int .i64 a0_4] 23 (0, 0)) (by (with_reducible repeat (first | refine blk_drewN ?_ _ | refine blk_drew ?_ | refine blk_alloc ?_ _)); exact BK276.out)) : gb276 ≠ gb278)); have n7_ := Aside0.mk ((by rw [hg]; exact Nat.ne_of_gt (blk_lt (g := gb276) (o := .cells #[.int .i64 a0_0, .int .i64 a0_1, .int .i64 a0_2, .int .i64 a0_3, .int .i64 a0_4] 23 (0, 0)) (by (with_reducible repeat (first | refine blk_drewN ?_ _ | refine blk_drew ?_ | refine blk_alloc ?_ _)); exact BK276.out)) : gb278 ≠ gb276)); have n8_ := Aside0.mk ((by rw [hg]; exact Nat.ne_of_lt (blk_lt (g := gb277) (o := .cells #[.int .i64 a1_0, .int .i64 a1_1, .int .i64 a1_2, .int .i64 a1_3, .int .i64 a1_4] 23 (0, 0)) (by (with_reducible repeat (first | refine blk_drewN ?_ _ | refine blk_drew ?_ | refine blk_alloc ?_ _)); exact BK277.out)) : gb277 ≠ gb278)); have n9_ := Aside0.mk ((by rw [hg]; exact Nat.ne_of_gt (blk_lt (g := gb277) (o := .cells #[.int .i64 a1_0, .int .i64 a1_1, .int .i64 a1_2, .int .i64 a1_3, .int .i64 a1_4] 23 (0, 0)) (by (with_reducible repeat (first | refine blk_drewN ?_ _ | refine blk_drew ?_ | refine blk_alloc ?_ _)); exact BK277.out)) : gb278 ≠ gb277)); clear BK276; clear BK277; clear HB; have BK276 := n0_; have BK277 := n1_; have HB := n2_; have BK278 := n3_; have GW278 := n4_; have GE278 := n5_; have NB276_278 := n6_; have NB278_276 := n7_; have NB277_278 := n8_; have NB278_277 := n9_; clear n0_ n1_ n2_ n3_ n4_ n5_ n6_ n7_ n8_ n9_; clear hb hbox hg; have hnb66 := NB276_277.out; have hnc66 := NB277_276.out; have hnb67 := NB276_278.out; have hnc67 := NB278_276.out; have hcz68_0 : w65.cell? ⟨gb276, 0, none⟩ = some (.int .i64 a0_0) := (blk_cell BK276.out 0).trans rfl; have hcz68_1 : w65.cell? ⟨gb276, 1, none⟩ = some (.int .i64 a0_1) := (blk_cell BK276.out 1).trans rfl; have hcz68_2 : w65.cell? ⟨gb276, 2, none⟩ = some (.int .i64 a0_2) := (blk_cell BK276.out 2).trans rfl; have hcz68_3 : w65.cell? ⟨gb276, 3, none⟩ = some (.int .i64 a0_3) := (blk_cell BK276.out 3).trans rfl; have hcz68_4 : w65.cell? ⟨gb276, 4, none⟩ = some (.int .i64 a0_4) := (blk_cell BK276.out 4).trans rfl; have hfz68_0 := blk_frozen BK276.out 0; have hfz68_1 := blk_frozen BK276.out 1; have hfz68_2 := blk_frozen BK276.out 2; have hfz68_3 := blk_frozen BK276.out 3; have hfz68_4 := blk_frozen BK276.out 4; have hnb69 := NB277_278.out; have hnc69 := NB278_277.out; have hcz70_0 : w65.cell? ⟨gb277, 0, none⟩ = some (.int .i64 a1_0) := (blk_cell BK277.out 0).trans rfl; have hcz70_1 : w65.cell? ⟨gb277, 1, none⟩ = some (.int .i64 a1_1) := (blk_cell BK277.out 1).trans rfl; have hcz70_2 : w65.cell? ⟨gb277, 2, none⟩ = some (.int .i64 a1_2) := (blk_cell BK277.out 2).trans rfl; have hcz70_3 : w65.cell? ⟨gb277, 3, none⟩ = some (.int .i64 a1_3) := (blk_cell BK277.out 3).trans rfl; have hcz70_4 : w65.cell? ⟨gb277, 4, none⟩ = some (.int .i64 a1_4) := (blk_cell BK277.out 4).trans rfl; have hfz70_0 := blk_frozen BK277.out 0; have hfz70_1 := blk_frozen BK277.out 1; have hfz70_2 := blk_frozen BK277.out 2; have hfz70_3 := blk_frozen BK277.out 3; have hfz70_4 := blk_frozen BK277.out 4) | ((with_reducible refine gate_dst (N := 9) rfl ?_); refine Kd.R_lit k23 _ 23 ?hg (N := 9) ?hd (xs := ([(⟨a0_0, a0_1, a0_2, a0_3, a0_4⟩ : S23), (⟨a1_0, a1_1, a1_2, a1_3, a1_4⟩ : S23)] : List (S23))) (inner := [.int .i64 a0_0, .int .i64 a0_1, .int .i64 a0_2, .int .i64 a0_3, .int .i64 a0_4, .int .i64 a1_0, .int .i64 a1_1, .int .i64 a1_2, .int .i64 a1_3, .int .i64 a1_4]) (ok := fun _ => True) (okp := fun _ => True) ?hr ?hp (fun _ hk => hk) trivial (Below.refl _ _) (Nat.le_refl _) (by simp) ?_; (case hd => rfl); (case hg => rfl); (case hr => first | (go_simp; done) | (go_simp; rfl)); (case hp => exact (Reps.c5 (show Kd.M k23 _ _ _ (⟨a0_0, a0_1, a0_2, a0_3, a0_4⟩ : S23) [.int .i64 a0_0, .int .i64 a0_1, .int .i64 a0_2, .int .i64 a0_3, .int .i64 a0_4] from (k23_mkM _ _ _ (⟨a0_0, a0_1, a0_2, a0_3, a0_4⟩ : S23) )) (Reps.c5 (show Kd.M k23 _ _ _ (⟨a1_0, a1_1, a1_2, a1_3, a1_4⟩ : S23) [.int .i64 a1_0, .int .i64 a1_1, .int .i64 a1_2, .int .i64 a1_3, .int .i64 a1_4] from (k23_mkM _ _ _ (⟨a1_0, a1_1, a1_2, a1_3, a1_4⟩ : S23) )) (Reps.none _ _)))); intro v280 w71 ho72 hb hg_ hnew_; clear hg_ hnew_; (first | rw [← Ny279.out] at ho72 | (simp only [Int.reduceToNat] at ho72; rw [← Ny279.out] at ho72)); have n0_ := Aside0.mk (Kd.R_lower (Kd.R_newB (Kd.R_newB (Kd.R_newB ho72 (g := gb276) (o := .cells #[.int .i64 a0_0, .int .i64 a0_1, .int .i64 a0_2, .int .i64 a0_3, .int .i64 a0_4] 23 (0, 0)) (by (with_reducible repeat (first | refine blk_drewN ?_ _ | refine blk_drew ?_ | refine blk_alloc ?_ _)); exact BK276.out)) (g := gb277) (o := .cells #[.int .i64 a1_0, .int .i64 a1_1, .int .i64 a1_2, .int .i64 a1_3, .int .i64 a1_4] 23 (0, 0)) (by (with_reducible repeat (first | refine blk_drewN ?_ _ | refine blk_drew ?_ | refine blk_alloc ?_ _)); exact BK277.out)) (g := gb278) (o := .cells #[.int .i64 0, .int .i64 0, .int .i64 0, .int .i64 0, .int .i64 0] 23 (0, 0)) (by (with_reducible repeat (first | refine blk_drewN ?_ _ | refine blk_drew ?_ | refine blk_alloc ?_ _)); exact BK278.out)) (below_size (by repeat (first | (with_reducible first | exact HB.out | apply below_alloc | apply pw_below_drewN | apply below_drew1 | refine below_set ?_ GE276.out | refine below_set ?_ GE277.out | refine below_set ?_ GE278.out) | exact HB.out)))); have n1_ := Aside0.mk (blk_below (g := gb276) (o := .cells #[.int .i64 a0_0, .int .i64 a0_1, .int .i64 a0_2, .int .i64 a0_3, .int .i64 a0_4] 23 (0, 0)) (by (with_reducible repeat (first | refine blk_drewN ?_ _ | refine blk_drew ?_ | refine blk_alloc ?_ _)); exact BK276.out) hb); have n2_ := Aside0.mk (blk_below (g := gb277) (o := .cells #[.int .i64 a1_0, .int .i64 a1_1, .int .i64 a1_2, .int .i64 a1_3, .int .i64 a1_4] 23 (0, 0)) (by (with_reducible repeat (first | refine blk_drewN ?_ _ | refine blk_drew ?_ | refine blk_alloc ?_ _)); exact BK277.out) hb); have n3_ := Aside0.mk (blk_below (g := gb278) (o := .cells #[.int .i64 0, .int .i64 0, .int .i64 0, .int .i64 0, .int .i64 0] 23 (0, 0)) (by (with_reducible repeat (first | refine blk_drewN ?_ _ | refine blk_drew ?_ | refine blk_alloc ?_ _)); exact BK278.out) hb); have n4_ := Aside0.mk (below_step (by repeat (first | (with_reducible first | exact HB.out | apply below_alloc | apply pw_below_drewN | apply below_drew1 | refine below_set ?_ GE276.out | refine below_set ?_ GE277.out | refine below_set ?_ GE278.out) | exact HB.out)) hb); clear BK276; clear BK277; clear BK278; clear HB; have HO281 := n0_; have BK276 := n1_; have BK277 := n2_; have BK278 := n3_; have HB := n4_; clear n0_ n1_ n2_ n3_ n4_; clear hb ho72; obtain ⟨Ao73, co73, eo73⟩ := Kd.R_slice HO281.out; subst eo73) | ((with_reducible refine gate_callee (f := 29) rfl ?_); refine goesL_ (some 10) rfl rfl Tryz.func29 (by kernel_rfl) rfl #[.slice Ao73 y279.length co73] rfl (by (try simp only [List.map_toArray, List.map_cons, List.map_nil]); first | done | rfl | (simp only [List.length_drop, List.length_take]; rfl)) ?_; (with_reducible refine (spoondriftref01_Checks.calls k _ _ y279 t282 _ ?side1 ?side2 A3.out).mono ?_); (case side1 => repeat (first | exact (Kd.R_reads' HO281.out).2.2 | (with_reducible refine Kd.C_alloc ?_ _) | (with_reducible refine Kd.C_drewN ?_ _) | (with_reducible refine Kd.C_drew ?_))); (case side2 => exact (Kd.R_reads' HO281.out).2.1); rintro e w74 ⟨rfl, hb⟩; refine ⟨_, rfl, ?_⟩; have n0_ := Aside0.mk (Kd.R_below (by (with_reducible repeat (first | apply Kd.R_alloc | apply Kd.R_drewN | apply Kd.R_drew)); exact HO281.out) hb); have n1_ := Aside0.mk (blk_below (g := gb276) (o := .cells #[.int .i64 a0_0, .int .i64 a0_1, .int .i64 a0_2, .int .i64 a0_3, .int .i64 a0_4] 23 (0, 0)) (by (with_reducible repeat (first | refine blk_drewN ?_ _ | refine blk_drew ?_ | refine blk_alloc ?_ _)); exact BK276.out) hb); have n2_ := Aside0.mk (blk_below (g := gb277) (o := .cells #[.int .i64 a1_0, .int .i64 a1_1, .int .i64 a1_2, .int .i64 a1_3, .int .i64 a1_4] 23 (0, 0)) (by (with_reducible repeat (first | refine blk_drewN ?_ _ | refine blk_drew ?_ | refine blk_alloc ?_ _)); exact BK277.out) hb); have n3_ := Aside0.mk (blk_below (g := gb278) (o := .cells #[.int .i64 0, .int .i64 0, .int .i64 0, .int .i64 0, .int .i64 0] 23 (0, 0)) (by (with_reducible repeat (first | refine blk_drewN ?_ _ | refine blk_drew ?_ | refine blk_alloc ?_ _)); exact BK278.out) hb); have n4_ := Aside0.mk (below_step (by repeat (first | (with_reducible first | exact HB.out | apply below_alloc | apply pw_below_drewN | apply below_drew1 | refine below_set ?_ GE276.out | refine below_set ?_ GE277.out | refine below_set ?_ GE278.out) | exact HB.out)) hb); clear HO281; clear BK276; clear BK277; clear BK278; clear HB; have HO281 := n0_; have BK276 := n1_; have BK277 := n2_; have BK278 := n3_; have HB := n4_; clear n0_ n1_ n2_ n3_ n4_; (try clear hb); (try clear hb2); (try clear hk); (try clear hi); have hcz75_0 : w74.cell? ⟨gb278, 0, none⟩ = some (.int .i64 0) := (blk_cell BK278.out 0).trans rfl; have hcz75_1 : w74.cell? ⟨gb278, 1, none⟩ = some (.int .i64 0) := (blk_cell BK278.out 1).trans rfl; have hcz75_2 : w74.cell? ⟨gb278, 2, none⟩ = some (.int .i64 0) := (blk_cell BK278.out 2).trans rfl; have hcz75_3 : w74.cell? ⟨gb278, 3, none⟩ = some (.int .i64 0) := (blk_cell BK278.out 3).trans rfl; have hcz75_4 : w74.cell? ⟨gb278, 4, none⟩ = some (.int .i64 0) := (blk_cell BK278.out 4).trans rfl; have hfz75_0 := blk_frozen BK278.out 0; have hfz75_1 := blk_frozen BK278.out 1; have hfz75_2 := blk_frozen BK278.out 2; have hfz75_3 := blk_frozen BK278.out 3; have hfz75_4 := blk_frozen BK278.out 4))
    refine bodyPost_ret (results_ct rfl _ _ gb278 23 #[.int .i64 0, .int .i64 0, .int .i64 0, .int .i64 0, .int .i64 0] (0, 0) _ rfl (by (with_reducible repeat (first | refine blk_drewN ?_ _ | refine blk_drew ?_ | refine blk_alloc ?_ _)); refine blk_put (cs := #[.int .i64 0, .int .i64 0, .int .i64 0, .int .i64 0, .int .i64 0]) ?_ 4 _ rfl; (with_reducible repeat (first | refine blk_drewN ?_ _ | refine blk_drew ?_ | refine blk_alloc ?_ _)); refine blk_put (cs := #[.int .i64 0, .int .i64 0, .int .i64 0, .int .i64 0, .int .i64 0]) ?_ 3 _ rfl; (with_reducible repeat (first | refine blk_drewN ?_ _ | refine blk_drew ?_ | refine blk_alloc ?_ _)); refine blk_put (cs := #[.int .i64 0, .int .i64 0, .int .i64 0, .int .i64 0, .int .i64 0]) ?_ 2 _ rfl; (with_reducible repeat (first | refine blk_drewN ?_ _ | refine blk_drew ?_ | refine blk_alloc ?_ _)); refine blk_put (cs := #[.int .i64 0, .int .i64 0, .int .i64 0, .int .i64 0, .int .i64 0]) ?_ 1 _ rfl; (with_reducible repeat (first | refine blk_drewN ?_ _ | refine blk_drew ?_ | refine blk_alloc ?_ _)); refine blk_put (cs := #[.int .i64 0, .int .i64 0, .int .i64 0, .int .i64 0, .int .i64 0]) ?_ 0 _ rfl; (with_reducible repeat (first | refine blk_drewN ?_ _ | refine blk_drew ?_ | refine blk_alloc ?_ _)); exact BK278.out) Tryz.underlying23 rfl (by kernel_rfl)) rfl ?_
    exact ⟨by first | rfl | (simp [errW_none, errW_some] <;> rfl) | (simp [*, errW_none, errW_some] <;> rfl), by repeat (first | (with_reducible first | exact HB.out | apply below_alloc | apply pw_below_drewN | apply below_drew1 | refine below_set ?_ GE276.out | refine below_set ?_ GE277.out | refine below_set ?_ GE278.out) | exact HB.out)⟩
end Go.Proofs.YtepdnjjfhbjcjaaGreatDoorPR
end
section
set_option linter.all false
namespace Go.Proofs.YtepdnjjfhbjcjaaGreatDoor
open Go.RowKit Go.Proofs.YtepdnjjfhbjcjaaGreatDoorPR Go.Proofs.YtepdnjjfhbjcjaaGreatDoor.Inj
theorem i64_and1 (n : Int) : bits .and .i64 n 1 = n % 2 := by
  have h1 : (BitVec.ofInt 64 1).toNat = 2 ^ 1 - 1 := by decide
  have key : (BitVec.ofInt 64 n &&& BitVec.ofInt 64 1).toNat = (n % ((2 ^ 64 : Nat) : Int)).toNat % 2 ^ 1 := by
    rw [BitVec.toNat_and, BitVec.toNat_ofInt, h1, Nat.and_two_pow_sub_one_eq_mod]
  show IntKind.i64.wrap ((BitVec.ofInt 64 n &&& BitVec.ofInt 64 1).toNat : Nat) = n % 2
  rw [key, IntKind.wrap_i64]
  omega
theorem wr {x : Int} (h : -9223372036854775808 ≤ x ∧ x ≤ 9223372036854775807) : wrap64 x = x := IntWalk.wrap64_in x h
def t5 (y : Nm) : Int × Int × Int × Int × Int := (y.p.a, y.p.b, y.p.c, y.p.d, y.k)
theorem beyond_eq (a b c d k L : Int) (h0 : 0 ≤ L) (h1 : L ≤ 4611686018427387904) : spoondriftref01_beyond.f a b c d k L = some (!wiB a b c d L) := by
  unfold spoondriftref01_beyond.f wiB inb
  rw [wr (x := -L) (by omega)]
  by_cases h1 : a > L
  · rw [if_pos h1]; simp; omega
  rw [if_neg h1]
  by_cases h2 : a < -L
  · rw [if_pos h2]; simp; omega
  rw [if_neg h2]
  by_cases h3 : b > L
  · rw [if_pos h3]; simp; omega
  rw [if_neg h3]
  by_cases h4 : b < -L
  · rw [if_pos h4]; simp; omega
  rw [if_neg h4]
  by_cases h5 : c > L
  · rw [if_pos h5]; simp; omega
  rw [if_neg h5]
  by_cases h6 : c < -L
  · rw [if_pos h6]; simp; omega
  rw [if_neg h6]
  by_cases h7 : d > L
  · rw [if_pos h7]; simp; omega
  rw [if_neg h7]
  simp only [Option.some.injEq]
  rw [Bool.eq_iff_iff]
  simp
  omega
theorem Check_eq (n : Nat) (hn : 1 ≤ n) (a b c d k : Int) : spoondriftref01_Check.f n a b c d k = some (chk a b c d k) := by
  obtain ⟨n, rfl⟩ : ∃ m, n = m + 1 := ⟨n - 1, by omega⟩
  unfold spoondriftref01_Check.f chk
  simp only [spoondriftref01_Check.j0]
  rw [beyond_eq a b c d k _ (by omega) (by omega)]
  by_cases h1 : k < 0
  · rw [if_pos h1, if_pos trivial, if_pos (.inl h1)]
  rw [if_neg h1]
  by_cases h2 : k > 60
  · rw [if_pos (by simpa using h2), if_pos (.inr h2)]
  rw [if_neg (by simpa using h2), if_neg (by omega)]
  simp only [Option.bind_some]
  cases wiB a b c d 1073741824 <;> simp
theorem zero_eq (a b c d k : Int) : spoondriftref01_zero.f a b c d k = some (decide (Pt.mk a b c d = Pt.zero)) := by
  unfold spoondriftref01_zero.f
  have e : (Pt.mk a b c d = Pt.zero) ↔ a = 0 ∧ b = 0 ∧ c = 0 ∧ d = 0 := Pt.ext_iff'
  simp only [e]
  by_cases h1 : a = 0
  · by_cases h2 : b = 0
    · by_cases h3 : c = 0
      · simp only [h1, h2, h3, if_true, true_and, Option.some.injEq]; rw [Bool.eq_iff_iff]; simp
      · simp [h1, h2, h3]
    · simp [h1, h2]
  · simp [h1]
theorem even_eq (a b c d k : Int) : spoondriftref01_even.f a b c d k = some (Pt.ev ⟨a, b, c, d⟩) := by
  unfold spoondriftref01_even.f Pt.ev
  rw [i64_and1, i64_and1, i64_and1, i64_and1]
  by_cases h : a % 2 = c % 2
  · rw [if_pos h]
    simp only [Option.some.injEq]
    rw [Bool.eq_iff_iff]
    simp
    omega
  · rw [if_neg h]
    simp only [Option.some.injEq]
    symm
    rw [Bool.and_eq_false_iff]
    left
    simp
    omega
theorem halved_eq {p : Pt} (k : Int) (he : p.ev = true) (hp : p.le 4611686018427387904) : spoondriftref01_halved.f p.a p.b p.c p.d k = some (p.half.a, p.half.b, p.half.c, p.half.d, k) := by
  rw [Pt.ev_iff] at he
  obtain ⟨h1, h2, h3, h4⟩ := hp
  unfold spoondriftref01_halved.f
  rw [i64_and1, i64_and1]
  have e1 : p.a / 2 + p.c / 2 + p.a % 2 = (p.a + p.c) / 2 := by omega
  have e2 : p.b / 2 + p.d / 2 + p.b % 2 = (p.b + p.d) / 2 := by omega
  have e3 : p.b / 2 - p.d / 2 = (p.b - p.d) / 2 := by omega
  have e4 : p.c / 2 - p.a / 2 = (p.c - p.a) / 2 := by omega
  rw [wr (x := p.b / 2 - p.d / 2) (by omega), wr (x := p.a / 2 + p.c / 2) (by omega), wr (x := p.b / 2 + p.d / 2) (by omega), wr (x := p.c / 2 - p.a / 2) (by omega),
    wr (x := p.a / 2 + p.c / 2 + p.a % 2) (by omega), wr (x := p.b / 2 + p.d / 2 + p.b % 2) (by omega), e1, e2, e3, e4]
  rfl
theorem Form_l0_eq (K : Nat) : ∀ (n : Nat) (p : Pt), K < n → K ≤ 1000 → p.le 4611686018427387904 → spoondriftref01_Form.l0 n p.a p.b p.c p.d K = some (t5 (nmOf (Pt.red K p))) := by
  induction K with
  | zero =>
    intro n p hn _ hp
    obtain ⟨n, rfl⟩ : ∃ m, n = m + 1 := ⟨n - 1, by omega⟩
    simp only [spoondriftref01_Form.l0]
    rw [if_neg (by simp)]
    rfl
  | succ K ih =>
    intro n p hn hK hp
    obtain ⟨n, rfl⟩ : ∃ m, n = m + 1 := ⟨n - 1, by omega⟩
    simp only [spoondriftref01_Form.l0]
    rw [if_pos (by omega), even_eq]
    simp only [Option.bind_some]
    show (if p.ev = true then _ else _) = _
    by_cases he : p.ev = true
    · rw [if_pos he, halved_eq _ he hp]
      simp only [Option.bind_some]
      rw [wr (by omega), show ((K + 1 : Nat) : Int) - 1 = (K : Int) by omega, ih n p.half (by omega) (by omega) (Pt.le_half he hp), Pt.red, if_pos he]
    · rw [if_neg he, Pt.red, if_neg he]
      rfl
theorem Form_eq (n : Nat) (p : Pt) (K : Nat) (hn : K < n) (hK : K ≤ 1000) (hp : p.le 4611686018427387904) : spoondriftref01_Form.f n p.a p.b p.c p.d K = some (t5 (nmOf (Pt.red K p))) := by
  unfold spoondriftref01_Form.f
  rw [zero_eq]
  simp only [Option.bind_some, decide_eq_true_eq]
  by_cases h : p = Pt.zero
  · rw [if_pos (by cases p; exact h), h, Pt.red_zero]
    rfl
  · rw [if_neg (by cases p; exact h)]
    exact Form_l0_eq K n p hn hK hp
def lf (x : Nm) : Nm := nmOf (Pt.red x.k.toNat x.p)
theorem Form_nm (n : Nat) (hn : 61 ≤ n) {x : Nm} (h : x.chk = 0) : spoondriftref01_Form.f n x.p.a x.p.b x.p.c x.p.d x.k = some (t5 (lf x)) := by
  obtain ⟨h1, h2, h3⟩ := Nm.chk_ok h
  have := Form_eq n x.p x.k.toNat (by omega) (by omega) (Pt.le_mono h1 (by omega))
  rwa [show ((x.k.toNat : Nat) : Int) = x.k by omega] at this
def s23 (x : Nm) : S23 := ⟨x.p.a, x.p.b, x.p.c, x.p.d, x.k⟩
theorem Checks_l0_eq (l : List Nm) : ∀ (n i : Nat), (l.drop i).length + 2 ≤ n → l.length ≤ 1000000 → i ≤ l.length → spoondriftref01_Checks.l0 n (l.map s23) i = some (chks (l.drop i)) := by
  intro n
  induction n with
  | zero => intro i h; omega
  | succ n ih =>
    intro i h hl hi
    simp only [spoondriftref01_Checks.l0]
    by_cases hlt : i < l.length
    · have hc : l.drop i = l[i] :: l.drop (i + 1) := List.drop_eq_getElem_cons hlt
      have hr : rd_T23 (l.map s23) (i : Int) = s23 l[i] := by
        unfold rd_T23
        rw [Int.toNat_natCast, List.getD_eq_getElem?_getD, List.getElem?_map, List.getElem?_eq_getElem hlt]
        rfl
      rw [hc, List.length_cons] at h
      rw [if_pos (by simpa using hlt), if_pos (by omega), hr, hc]
      show (spoondriftref01_Check.f n l[i].p.a l[i].p.b l[i].p.c l[i].p.d l[i].k).bind _ = _
      rw [Check_eq n (by omega)]
      simp only [Option.bind_some]
      show (if l[i].chk = 0 then _ else _) = some (if l[i].chk = 0 then _ else l[i].chk)
      by_cases h0 : l[i].chk = 0
      · rw [if_pos h0, if_pos h0, wr (by omega)]
        exact ih (i + 1) (by omega) hl (by omega)
      · rw [if_neg h0, if_neg h0]
        rfl
    · rw [if_neg (by simpa using hlt), List.drop_of_length_le (by omega)]
      rfl
theorem Checks_eq (n : Nat) (l : List Nm) (hn : l.length + 2 ≤ n) (hl : l.length ≤ 1000000) : spoondriftref01_Checks.f n (l.map s23) = some (chks l) :=
  Checks_l0_eq l n 0 (by simpa using hn) hl (by omega)
end Go.Proofs.YtepdnjjfhbjcjaaGreatDoor
end
section
set_option linter.all false
namespace Go.Proofs.YtepdnjjfhbjcjaaGreatDoor
open Go.RowKit Go.Proofs.YtepdnjjfhbjcjaaGreatDoorPR Go.Proofs.YtepdnjjfhbjcjaaGreatDoor.Inj
theorem chk_red (r : Pt × Nat) : chk r.1.a r.1.b r.1.c r.1.d r.2 = 0 ↔ lstOk r = true := by
  unfold chk lstOk
  by_cases h : r.2 ≤ 60
  · rw [if_neg (by omega), decide_eq_true h, Bool.and_true]
    cases wiB r.1.a r.1.b r.1.c r.1.d 1073741824 <;> simp
  · rw [if_pos (by omega), decide_eq_false h, Bool.and_false]
    simp
theorem product_eq {p q : Pt} (k l : Int) (hp : p.le 1073741824) (hq : q.le 1073741824) (hk : 0 ≤ k ∧ k ≤ 60) (hl : 0 ≤ l ∧ l ≤ 60) :
    spoondriftref01_product.f p.a p.b p.c p.d k q.a q.b q.c q.d l = some ((p.mul q).a, (p.mul q).b, (p.mul q).c, (p.mul q).d, k + l) := by
  obtain ⟨⟨h1, h2, h3, h4⟩, ⟨h5, h6, h7, h8⟩, ⟨h9, h10, h11, h12⟩, ⟨h13, h14, h15, h16⟩⟩ := Pt.prods hp hq (R := 1152921504606846976) (by decide)
  unfold spoondriftref01_product.f
  rw [wr (x := p.a * q.a) (by omega), wr (x := p.a * q.b) (by omega), wr (x := p.a * q.c) (by omega), wr (x := p.a * q.d) (by omega),
    wr (x := p.b * q.a) (by omega), wr (x := p.b * q.b) (by omega), wr (x := p.b * q.c) (by omega), wr (x := p.b * q.d) (by omega),
    wr (x := p.c * q.a) (by omega), wr (x := p.c * q.b) (by omega), wr (x := p.c * q.c) (by omega), wr (x := p.c * q.d) (by omega),
    wr (x := p.d * q.a) (by omega), wr (x := p.d * q.b) (by omega), wr (x := p.d * q.c) (by omega), wr (x := p.d * q.d) (by omega),
    wr (x := p.a * q.a - p.b * q.d) (by omega), wr (x := p.a * q.a - p.b * q.d - p.c * q.c) (by omega), wr (x := p.a * q.a - p.b * q.d - p.c * q.c - p.d * q.b) (by omega),
    wr (x := p.a * q.b + p.b * q.a) (by omega), wr (x := p.a * q.b + p.b * q.a - p.c * q.d) (by omega), wr (x := p.a * q.b + p.b * q.a - p.c * q.d - p.d * q.c) (by omega),
    wr (x := p.a * q.c + p.b * q.b) (by omega), wr (x := p.a * q.c + p.b * q.b + p.c * q.a) (by omega), wr (x := p.a * q.c + p.b * q.b + p.c * q.a - p.d * q.d) (by omega),
    wr (x := p.a * q.d + p.b * q.c) (by omega), wr (x := p.a * q.d + p.b * q.c + p.c * q.b) (by omega), wr (x := p.a * q.d + p.b * q.c + p.c * q.b + p.d * q.a) (by omega),
    wr (x := k + l) (by omega)]
  rfl
theorem chk_lf {x : Nm} (h : x.chk = 0) : (lf x).chk = 0 := by
  obtain ⟨h1, h2, h3⟩ := Nm.chk_ok h
  have := Pt.red_kle x.k.toNat x.p
  have hq := Pt.red_le x.k.toNat x.p h1
  refine Nm.ok_chk (x := lf x) hq ?_ ?_
  · show (0 : Int) ≤ ((Pt.red x.k.toNat x.p).2 : Int); omega
  · show ((Pt.red x.k.toNat x.p).2 : Int) ≤ 60; omega
theorem times_eq {p : Pt} (k : Int) (hp : p.le 1152921504606846976) : spoondriftref01_times.f p.a p.b p.c p.d k = some (p.twice.a, p.twice.b, p.twice.c, p.twice.d, k) := by
  obtain ⟨h1, h2, h3, h4⟩ := hp
  unfold spoondriftref01_times.f
  rw [wr (x := p.b - p.d) (by omega), wr (x := p.a + p.c) (by omega), wr (x := p.b + p.d) (by omega), wr (x := p.c - p.a) (by omega)]
  rfl
theorem le_big {p : Pt} (h : p.le 1073741824) : p.le 1152921504606846976 := Pt.le_mono h (by decide)
end Go.Proofs.YtepdnjjfhbjcjaaGreatDoor
end
section
set_option linter.all false
namespace Go.Proofs.YtepdnjjfhbjcjaaGreatDoor
open Go.RowKit Go.Proofs.YtepdnjjfhbjcjaaGreatDoorPR Go.Proofs.YtepdnjjfhbjcjaaGreatDoor.Inj
theorem fits_eq (n : Nat) (p : Pt) (K : Nat) (hn : K < n) (hK : K ≤ 1000) (hp : p.le 4611686018427387904) : spoondriftref01_fits.f n p.a p.b p.c p.d K = some (flatN (okN (Pt.red K p))) := by
  unfold spoondriftref01_fits.f
  rw [Form_eq n p K hn hK hp]
  simp only [Option.bind_some, t5, nmOf]
  rw [Check_eq n (by omega)]
  simp only [Option.bind_some]
  by_cases h : lstOk (Pt.red K p) = true
  · rw [if_pos ((chk_red _).2 h)]
    unfold okN
    rw [if_pos h]
    rfl
  · rw [if_neg (fun h2 => h ((chk_red _).1 h2))]
    unfold okN
    rw [if_neg h]
    rfl
end Go.Proofs.YtepdnjjfhbjcjaaGreatDoor
end
section
set_option linter.all false
namespace Go.Proofs.YtepdnjjfhbjcjaaGreatDoor
open Go.RowKit Go.Proofs.YtepdnjjfhbjcjaaGreatDoorPR Go.Proofs.YtepdnjjfhbjcjaaGreatDoor.Inj
theorem Add_l1_eq : ∀ (j n : Nat) (p q : Pt) (k l : Nat), k = l + j → j + k + 2 ≤ n → k ≤ 900 → p.le 1152921504606846976 → (∀ i, i ≤ j → (Pt.tw i q).le 1152921504606846976) →
    spoondriftref01_Add.l1 n p.a p.b p.c p.d k q.a q.b q.c q.d l = some (flatN (okN (Pt.red k (p.add (Pt.tw j q))))) := by
  intro j
  induction j with
  | zero =>
    intro n p q k l hk hn hK hp hq
    obtain ⟨n, rfl⟩ : ∃ m, n = m + 1 := ⟨n - 1, by omega⟩
    have hq0 := hq 0 (by omega)
    simp only [Pt.tw] at hq0
    simp only [spoondriftref01_Add.l1]
    rw [if_neg (by omega)]
    obtain ⟨h1, h2, h3, h4⟩ := hp
    obtain ⟨g1, g2, g3, g4⟩ := hq0
    rw [wr (x := p.a + q.a) (by omega), wr (x := p.b + q.b) (by omega), wr (x := p.c + q.c) (by omega), wr (x := p.d + q.d) (by omega)]
    have := fits_eq n (p.add q) k (by omega) (by omega) (by simp only [Pt.le, Pt.add]; omega)
    rw [show spoondriftref01_fits.f n (p.a + q.a) (p.b + q.b) (p.c + q.c) (p.d + q.d) k = _ from this]
    rfl
  | succ j ih =>
    intro n p q k l hk hn hK hp hq
    obtain ⟨n, rfl⟩ : ∃ m, n = m + 1 := ⟨n - 1, by omega⟩
    have hq0 := hq 0 (by omega)
    simp only [Pt.tw] at hq0
    simp only [spoondriftref01_Add.l1]
    rw [if_pos (by omega), times_eq _ hq0]
    simp only [Option.bind_some]
    rw [wr (x := (l : Int) + 1) (by omega)]
    have := ih n p q.twice k (l + 1) (by omega) (by omega) hK hp (fun i hi => hq (i + 1) (by omega))
    rw [show ((l + 1 : Nat) : Int) = (l : Int) + 1 by omega] at this
    exact this
theorem Add_l0_eq : ∀ (j n : Nat) (p q : Pt) (k l : Nat), l = k + j → j + l + 3 ≤ n → l ≤ 900 → q.le 1152921504606846976 → (∀ i, i ≤ j → (Pt.tw i p).le 1152921504606846976) →
    spoondriftref01_Add.l0 n p.a p.b p.c p.d k q.a q.b q.c q.d l = some (flatN (okN (Pt.red l ((Pt.tw j p).add q)))) := by
  intro j
  induction j with
  | zero =>
    intro n p q k l hk hn hK hq hp
    obtain ⟨n, rfl⟩ : ∃ m, n = m + 1 := ⟨n - 1, by omega⟩
    simp only [spoondriftref01_Add.l0]
    rw [if_neg (by omega)]
    have := Add_l1_eq 0 n p q k l (by omega) (by omega) (by omega) (hp 0 (by omega)) (fun i hi => by rw [show i = 0 by omega]; exact hq)
    rw [this, show k = l by omega]
    rfl
  | succ j ih =>
    intro n p q k l hk hn hK hq hp
    obtain ⟨n, rfl⟩ : ∃ m, n = m + 1 := ⟨n - 1, by omega⟩
    have hp0 := hp 0 (by omega)
    simp only [Pt.tw] at hp0
    simp only [spoondriftref01_Add.l0]
    rw [if_pos (by omega), times_eq _ hp0]
    simp only [Option.bind_some]
    rw [wr (x := (k : Int) + 1) (by omega)]
    have := ih n p.twice q (k + 1) l (by omega) (by omega) hK hq (fun i hi => hp (i + 1) (by omega))
    rw [show ((k + 1 : Nat) : Int) = (k : Int) + 1 by omega] at this
    exact this
theorem Add_raise (n k l : Nat) (p q : Pt) (hn : 300 ≤ n) (hk : k ≤ 60) (hl : l ≤ 60) (hp : p.le 1073741824) (hq : q.le 1073741824) :
    spoondriftref01_Add.l0 n p.a p.b p.c p.d k q.a q.b q.c q.d l = some (flatN (okN (Pt.red (max k l) ((Pt.tw (max k l - k) p).add (Pt.tw (max k l - l) q))))) := by
  by_cases h : k ≤ l
  · rw [show max k l = l by omega, Nat.sub_self]
    exact Add_l0_eq (l - k) n p q k l (by omega) (by omega) (by omega) (le_big hq) (fun i hi => Pt.tw_le hp (by omega))
  · rw [show max k l = k by omega, Nat.sub_self]
    obtain ⟨n, rfl⟩ : ∃ m, n = m + 1 := ⟨n - 1, by omega⟩
    simp only [spoondriftref01_Add.l0]
    rw [if_neg (by omega)]
    exact Add_l1_eq (k - l) n p q k l (by omega) (by omega) (by omega) (le_big hp) (fun i hi => Pt.tw_le hq (by omega))
theorem red_plus (k l : Nat) (p q : Pt) : Pt.red (max k l) ((Pt.tw (max k l - k) p).add (Pt.tw (max k l - l) q)) =
    Pt.red (max (Pt.red k p).2 (Pt.red l q).2) ((Pt.tw (max (Pt.red k p).2 (Pt.red l q).2 - (Pt.red k p).2) (Pt.red k p).1).add (Pt.tw (max (Pt.red k p).2 (Pt.red l q).2 - (Pt.red l q).2) (Pt.red l q).1)) := by
  obtain ⟨i, e1, e2⟩ := Pt.red_ex k p
  obtain ⟨j, e3, e4⟩ := Pt.red_ex l q
  generalize Pt.red k p = r at e1 e2 ⊢
  generalize Pt.red l q = s at e3 e4 ⊢
  subst e1 e2 e3 e4
  obtain ⟨r, u⟩ := r
  obtain ⟨s, v⟩ := s
  dsimp only
  have h := Pt.red_tw (max (i + u) (j + v) - max u v) (max u v) ((Pt.tw (max u v - u) r).add (Pt.tw (max u v - v) s))
  rw [← h, ← Pt.tw_addp, ← Pt.tw_add, ← Pt.tw_add, ← Pt.tw_add, ← Pt.tw_add]
  congr 2
  · omega
  · congr 1; omega
  · congr 1; omega
theorem Add_eq (n : Nat) (hn : 300 ≤ n) (x z : Nm) : spoondriftref01_Add.f n x.p.a x.p.b x.p.c x.p.d x.k z.p.a z.p.b z.p.c z.p.d z.k = some (flatN (sAdd x z)) := by
  unfold spoondriftref01_Add.f
  have h := Checks_eq n [x, z] (by simp; omega) (by simp)
  show ((spoondriftref01_Checks.f n ([x, z].map s23)).bind _) = _
  rw [h]
  simp only [Option.bind_some]
  by_cases h0 : chks [x, z] = 0
  · obtain ⟨hx, hz⟩ := chks_two h0
    rw [if_pos h0, Form_nm n (by omega) hx, Form_nm n (by omega) hz]
    simp only [Option.bind_some, t5]
    obtain ⟨a1, a2, a3⟩ := Nm.chk_ok hx
    obtain ⟨b1, b2, b3⟩ := Nm.chk_ok hz
    have h1 := Pt.red_kle x.k.toNat x.p
    have h2 := Pt.red_kle z.k.toNat z.p
    have h3 := Pt.red_le x.k.toNat x.p a1
    have h4 := Pt.red_le z.k.toNat z.p b1
    have := Add_raise n (Pt.red x.k.toNat x.p).2 (Pt.red z.k.toNat z.p).2 (Pt.red x.k.toNat x.p).1 (Pt.red z.k.toNat z.p).1 hn (by omega) (by omega) h3 h4
    show spoondriftref01_Add.l0 n (Pt.red x.k.toNat x.p).1.a (Pt.red x.k.toNat x.p).1.b (Pt.red x.k.toNat x.p).1.c (Pt.red x.k.toNat x.p).1.d (Pt.red x.k.toNat x.p).2 (Pt.red z.k.toNat z.p).1.a (Pt.red z.k.toNat z.p).1.b (Pt.red z.k.toNat z.p).1.c (Pt.red z.k.toNat z.p).1.d (Pt.red z.k.toNat z.p).2 = _
    rw [this]
    unfold sAdd
    rw [if_pos h0]
    exact congrArg (fun r => some (flatN (okN r))) (red_plus _ _ _ _).symm
  · rw [if_neg h0]
    unfold sAdd
    rw [if_neg h0]
    rfl
theorem Mul_eq (n : Nat) (hn : 300 ≤ n) (x z : Nm) : spoondriftref01_Mul.f n x.p.a x.p.b x.p.c x.p.d x.k z.p.a z.p.b z.p.c z.p.d z.k = some (flatN (sMul x z)) := by
  unfold spoondriftref01_Mul.f
  have h := Checks_eq n [x, z] (by simp; omega) (by simp)
  show ((spoondriftref01_Checks.f n ([x, z].map s23)).bind _) = _
  rw [h]
  simp only [Option.bind_some]
  by_cases h0 : chks [x, z] = 0
  · obtain ⟨hx, hz⟩ := chks_two h0
    obtain ⟨a1, a2, a3⟩ := Nm.chk_ok hx
    obtain ⟨b1, b2, b3⟩ := Nm.chk_ok hz
    rw [if_pos h0, product_eq _ _ a1 b1 ⟨a2, a3⟩ ⟨b2, b3⟩]
    simp only [Option.bind_some]
    have := fits_eq n (x.p.mul z.p) (x.k.toNat + z.k.toNat) (by omega) (by omega) (Pt.sm_le (Pt.sm_mul a1 b1))
    rw [show ((x.k.toNat + z.k.toNat : Nat) : Int) = x.k + z.k by omega] at this
    rw [this]
    unfold sMul
    rw [if_pos h0]
    rfl
  · rw [if_neg h0]
    unfold sMul
    rw [if_neg h0]
    rfl
end Go.Proofs.YtepdnjjfhbjcjaaGreatDoor
end
