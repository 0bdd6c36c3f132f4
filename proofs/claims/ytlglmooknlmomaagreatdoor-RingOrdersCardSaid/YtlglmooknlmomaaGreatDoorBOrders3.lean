import Derived.Test.YtlglmooknlmomaaGreatDoorBOrders0
import Derived.Test.YtlglmooknlmomaaGreatDoorBOrders1
import Derived.Test.YtlglmooknlmomaaGreatDoorBOrders2
set_option linter.all false
section
namespace Go.Proofs.YtlglmooknlmomaaGreatDoorPR
open Go.RowKit Go.Proofs.YtlglmooknlmomaaGreatDoor.Inj Go.Proofs.YtlglmooknlmomaaGreatDoorW.PrintWords Go.Proofs.YtlglmooknlmomaaGreatDoorW.PrintLast Go.Proofs.YtlglmooknlmomaaGreatDoorW.PrintMore
attribute [local go_sem] max2_int min2_int max_two min_two max_three min_three max_four min_four
set_option linter.unusedVariables false
set_option linter.unusedSimpArgs false
def spoondriftref01_Phase.l0 : Nat → Int → Int → Int → Int → Int → Int → Int → Int → Int → Int → Int → Option (Int × Int)
  | 0, _, _, _, _, _, _, _, _, _, _, _ => none
  | k + 1, x7, x422000, x422001, x422002, x422003, x422004, x423000, x423001, x423002, x423003, x423004 => if x7 < 8 then ((spoondriftref01_Omega.f k x7).bind fun bt427 => ((spoondriftref01_product.f x423000 x423001 x423002 x423003 x423004 bt427.1 bt427.2.1 bt427.2.2.1 bt427.2.2.2.1 bt427.2.2.2.2).bind fun bt432 => ((spoondriftref01_Equal.f k x422000 x422001 x422002 x422003 x422004 bt432.1 bt432.2.1 bt432.2.2.1 bt432.2.2.2.1 bt432.2.2.2.2).bind fun t437 => (if t437 = true then (some (x7, 0)) else (spoondriftref01_Phase.l0 k (wrap64 (x7 + 1)) x422000 x422001 x422002 x422003 x422004 x423000 x423001 x423002 x423003 x423004))))) else (some (0, 6))
def spoondriftref01_Phase.f (k : Nat) (a0_0 : Int) (a0_1 : Int) (a0_2 : Int) (a0_3 : Int) (a0_4 : Int) (a1_0 : Int) (a1_1 : Int) (a1_2 : Int) (a1_3 : Int) (a1_4 : Int) : Option (Int × Int) := (spoondriftref01_Checks.f k (([(⟨a0_0, a0_1, a0_2, a0_3, a0_4⟩ : S23), (⟨a1_0, a1_1, a1_2, a1_3, a1_4⟩ : S23)] : List (S23)))).bind fun t426 => (if t426 = 0 then (spoondriftref01_Phase.l0 k 0 a0_0 a0_1 a0_2 a0_3 a0_4 a1_0 a1_1 a1_2 a1_3 a1_4) else (some (0, t426)))
theorem spoondriftref01_Phase.mono_l : ∀ k, (∀ y0 y1 y2 y3 y4 y5 y6 y7 y8 y9 y10, LeO (spoondriftref01_Phase.l0 k y0 y1 y2 y3 y4 y5 y6 y7 y8 y9 y10) (spoondriftref01_Phase.l0 (k + 1) y0 y1 y2 y3 y4 y5 y6 y7 y8 y9 y10))
  | 0 => fun _ _ _ _ _ _ _ _ _ _ _ r h => by simp [spoondriftref01_Phase.l0] at h
  | k + 1 => by
    have ih0 := spoondriftref01_Phase.mono_l k
    · intro y0 y1 y2 y3 y4 y5 y6 y7 y8 y9 y10
      unfold spoondriftref01_Phase.l0
      repeat' first
      | (with_reducible exact ih0 _ _ _ _ _ _ _ _ _ _ _)
      | (with_reducible exact spoondriftref01_Checks.mono _ _)
      | (with_reducible exact spoondriftref01_Equal.mono _ _ _ _ _ _ _ _ _ _ _)
      | (with_reducible exact spoondriftref01_Omega.mono _ _)
      | (with_reducible exact LeO.refl _)
      | (with_reducible exact LeO.none _)
      | (with_reducible refine LeO.ite ?_ ?_)
      | (with_reducible refine LeO.bind ?_ (fun _ => ?_))
      | exact ih0 _ _ _ _ _ _ _ _ _ _ _
      | exact spoondriftref01_Checks.mono _ _
      | exact spoondriftref01_Equal.mono _ _ _ _ _ _ _ _ _ _ _
      | exact spoondriftref01_Omega.mono _ _
      | exact LeO.none _
      | refine LeO.ite ?_ ?_
      | refine LeO.bind ?_ (fun _ => ?_)
theorem spoondriftref01_Phase.mono : ∀ a0 a1 a2 a3 a4 a5 a6 a7 a8 a9 k, LeO (spoondriftref01_Phase.f k a0 a1 a2 a3 a4 a5 a6 a7 a8 a9) (spoondriftref01_Phase.f (k + 1) a0 a1 a2 a3 a4 a5 a6 a7 a8 a9) := by
  intro a0 a1 a2 a3 a4 a5 a6 a7 a8 a9 k
  have ih0 := spoondriftref01_Phase.mono_l k
  unfold spoondriftref01_Phase.f
  repeat' first
      | (with_reducible exact ih0 _ _ _ _ _ _ _ _ _ _ _)
      | (with_reducible exact spoondriftref01_Checks.mono _ _)
      | (with_reducible exact spoondriftref01_Equal.mono _ _ _ _ _ _ _ _ _ _ _)
      | (with_reducible exact spoondriftref01_Omega.mono _ _)
      | (with_reducible exact LeO.refl _)
      | (with_reducible exact LeO.none _)
      | (with_reducible refine LeO.ite ?_ ?_)
      | (with_reducible refine LeO.bind ?_ (fun _ => ?_))
      | exact ih0 _ _ _ _ _ _ _ _ _ _ _
      | exact spoondriftref01_Checks.mono _ _
      | exact spoondriftref01_Equal.mono _ _ _ _ _ _ _ _ _ _ _
      | exact spoondriftref01_Omega.mono _ _
      | exact LeO.none _
      | refine LeO.ite ?_ ?_
      | refine LeO.bind ?_ (fun _ => ?_)
set_option maxHeartbeats 8000000 in
set_option maxRecDepth 100000 in
theorem spoondriftref01_Phase.calls (k : Nat) (a0_0 : Int) (a0_1 : Int) (a0_2 : Int) (a0_3 : Int) (a0_4 : Int) (a1_0 : Int) (a1_1 : Int) (a1_2 : Int) (a1_3 : Int) (a1_4 : Int) (r1 : Int) (r2 : Int) (w : World) (h : spoondriftref01_Phase.f k a0_0 a0_1 a0_2 a0_3 a0_4 a1_0 a1_1 a1_2 a1_3 a1_4 = some (r1, r2)) :
    Calls Tryz.prog 25 #[.agg #[.int .i64 a0_0, .int .i64 a0_1, .int .i64 a0_2, .int .i64 a0_3, .int .i64 a0_4], .agg #[.int .i64 a1_0, .int .i64 a1_1, .int .i64 a1_2, .int .i64 a1_3, .int .i64 a1_4]] w fun e w' => e = .returned (.tuple #[.int .i64 r1, .int .i64 r2]) ∧ Below w.heap.size w w' := by
  have hu23 := Tryz.underlying23
  have HB := Aside0.mk (Below.refl w.heap.size w)
  have H : ((spoondriftref01_Checks.f k (([(⟨a0_0, a0_1, a0_2, a0_3, a0_4⟩ : S23), (⟨a1_0, a1_1, a1_2, a1_3, a1_4⟩ : S23)] : List (S23)))).bind fun t426 => (if t426 = 0 then (spoondriftref01_Phase.l0 k 0 a0_0 a0_1 a0_2 a0_3 a0_4 a1_0 a1_1 a1_2 a1_3 a1_4) else (some (0, t426)))) = some (r1, r2) := h
  clear h
  obtain ⟨y423, hy423⟩ : ∃ y_ : List (S23), y_ = (([(⟨a0_0, a0_1, a0_2, a0_3, a0_4⟩ : S23), (⟨a1_0, a1_1, a1_2, a1_3, a1_4⟩ : S23)] : List (S23))) := ⟨_, rfl⟩
  replace H : ((spoondriftref01_Checks.f k y423).bind fun t426 => (if t426 = 0 then (spoondriftref01_Phase.l0 k 0 a0_0 a0_1 a0_2 a0_3 a0_4 a1_0 a1_1 a1_2 a1_3 a1_4) else (some (0, t426)))) = some (r1, r2) := by first | (rw [hy423]; with_reducible exact H) | (have H2_ := (Option.bind_some _ _).symm.trans H; rw [hy423]; with_reducible exact H2_) | (have H2_ := (Option.bind_some _ _).symm.trans H; with_reducible exact H2_) | with_reducible exact H | (rw [hy423]; exact H) | exact H
  have Ny423 := Aside0.mk hy423
  clear hy423
  replace H := Option.bind_eq_some_iff.mp H
  obtain ⟨t426, A30, H⟩ := H
  replace H : (if t426 = 0 then (spoondriftref01_Phase.l0 k 0 a0_0 a0_1 a0_2 a0_3 a0_4 a1_0 a1_1 a1_2 a1_3 a1_4) else (some (0, t426))) = some (r1, r2) := H
  have A3 := Aside0.mk A30
  clear A30
  by_cases c4 : t426 = 0
  · rw [if_pos c4] at H
    have c4b0 : (t426 == 0) = true := beq_iff_eq.mpr c4
    have c4b1 : (t426 != 0) = false := bne_eq_false_iff_eq.mpr c4
    clear c4
    have H' := Aside0.mk H
    clear H
    go_enter Tryz.func25, Tryz.ntmps25
    go_wp2_with (first | ((with_reducible refine gate_dst (N := 2) rfl ?_); refine box_event ?hg (N := 2) ?hd (cs := #[.int .i64 a0_0, .int .i64 a0_1, .int .i64 a0_2, .int .i64 a0_3, .int .i64 a0_4]) (t := 23) ?hr ?_; (case hd => rfl); (case hg => rfl); (case hr => first | (go_simp; done) | (go_simp; rfl)); intro gb421 hg w5 hbox hb; have n0_ := Aside0.mk (below_step (by repeat (first | (with_reducible first | exact HB.out | apply below_alloc | apply pw_below_drewN | apply below_drew1) | exact HB.out)) hb); have n1_ := Aside0.mk (hbox); have n2_ := Aside0.mk ((by rw [hg]; exact (below_size (by repeat (first | (with_reducible first | exact HB.out | apply below_alloc | apply pw_below_drewN | apply below_drew1) | exact HB.out))) : w.heap.size ≤ gb421)); have n3_ := Aside0.mk ((by rw [hg]; exact (below_size (by repeat (first | (with_reducible first | exact HB.out | apply below_alloc | apply pw_below_drewN | apply below_drew1) | exact HB.out))) : w.heap.size ≤ gb421)); clear HB; have HB := n0_; have BK421 := n1_; have GW421 := n2_; have GE421 := n3_; clear n0_ n1_ n2_ n3_; clear hb hbox hg) | ((with_reducible refine gate_dst (N := 3) rfl ?_); refine box_event ?hg (N := 3) ?hd (cs := #[.int .i64 a1_0, .int .i64 a1_1, .int .i64 a1_2, .int .i64 a1_3, .int .i64 a1_4]) (t := 23) ?hr ?_; (case hd => rfl); (case hg => rfl); (case hr => first | (go_simp; done) | (go_simp; rfl)); intro gb422 hg w6 hbox hb; have n0_ := Aside0.mk (blk_below (g := gb421) (o := .cells #[.int .i64 a0_0, .int .i64 a0_1, .int .i64 a0_2, .int .i64 a0_3, .int .i64 a0_4] 23 (0, 0)) (by (with_reducible repeat (first | refine blk_drewN ?_ _ | refine blk_drew ?_ | refine blk_alloc ?_ _)); exact BK421.out) hb); have n1_ := Aside0.mk (below_step (by repeat (first | (with_reducible first | exact HB.out | apply below_alloc | apply pw_below_drewN | apply below_drew1 | refine below_set ?_ GE421.out) | exact HB.out)) hb); have n2_ := Aside0.mk (hbox); have n3_ := Aside0.mk ((by rw [hg]; exact (below_size (by repeat (first | (with_reducible first | exact HB.out | apply below_alloc | apply pw_below_drewN | apply below_drew1 | refine below_set ?_ GE421.out) | exact HB.out))) : w.heap.size ≤ gb422)); have n4_ := Aside0.mk ((by rw [hg]; exact (below_size (by repeat (first | (with_reducible first | exact HB.out | apply below_alloc | apply pw_below_drewN | apply below_drew1 | refine below_set ?_ GE421.out) | exact HB.out))) : w.heap.size ≤ gb422)); have n5_ := Aside0.mk ((by rw [hg]; exact Nat.ne_of_lt (blk_lt (g := gb421) (o := .cells #[.int .i64 a0_0, .int .i64 a0_1, .int .i64 a0_2, .int .i64 a0_3, .int .i64 a0_4] 23 (0, 0)) (by (with_reducible repeat (first | refine blk_drewN ?_ _ | refine blk_drew ?_ | refine blk_alloc ?_ _)); exact BK421.out)) : gb421 ≠ gb422)); have n6_ := Aside0.mk ((by rw [hg]; exact Nat.ne_of_gt (blk_lt (g := gb421) (o := .cells #[.int .i64 a0_0, .int .i64 a0_1, .int .i64 a0_2, .int .i64 a0_3, .int .i64 a0_4] 23 (0, 0)) (by (with_reducible repeat (first | refine blk_drewN ?_ _ | refine blk_drew ?_ | refine blk_alloc ?_ _)); exact BK421.out)) : gb422 ≠ gb421)); clear BK421; clear HB; have BK421 := n0_; have HB := n1_; have BK422 := n2_; have GW422 := n3_; have GE422 := n4_; have NB421_422 := n5_; have NB422_421 := n6_; clear n0_ n1_ n2_ n3_ n4_ n5_ n6_; clear hb hbox hg; have hnb7 := NB421_422.out; have hnc7 := NB422_421.out; have hcz8_0 : w6.cell? ⟨gb421, 0, none⟩ = some (.int .i64 a0_0) := (blk_cell BK421.out 0).trans rfl; have hcz8_1 : w6.cell? ⟨gb421, 1, none⟩ = some (.int .i64 a0_1) := (blk_cell BK421.out 1).trans rfl; have hcz8_2 : w6.cell? ⟨gb421, 2, none⟩ = some (.int .i64 a0_2) := (blk_cell BK421.out 2).trans rfl; have hcz8_3 : w6.cell? ⟨gb421, 3, none⟩ = some (.int .i64 a0_3) := (blk_cell BK421.out 3).trans rfl; have hcz8_4 : w6.cell? ⟨gb421, 4, none⟩ = some (.int .i64 a0_4) := (blk_cell BK421.out 4).trans rfl; have hfz8_0 := blk_frozen BK421.out 0; have hfz8_1 := blk_frozen BK421.out 1; have hfz8_2 := blk_frozen BK421.out 2; have hfz8_3 := blk_frozen BK421.out 3; have hfz8_4 := blk_frozen BK421.out 4; have hcz9_0 : w6.cell? ⟨gb422, 0, none⟩ = some (.int .i64 a1_0) := (blk_cell BK422.out 0).trans rfl; have hcz9_1 : w6.cell? ⟨gb422, 1, none⟩ = some (.int .i64 a1_1) := (blk_cell BK422.out 1).trans rfl; have hcz9_2 : w6.cell? ⟨gb422, 2, none⟩ = some (.int .i64 a1_2) := (blk_cell BK422.out 2).trans rfl; have hcz9_3 : w6.cell? ⟨gb422, 3, none⟩ = some (.int .i64 a1_3) := (blk_cell BK422.out 3).trans rfl; have hcz9_4 : w6.cell? ⟨gb422, 4, none⟩ = some (.int .i64 a1_4) := (blk_cell BK422.out 4).trans rfl; have hfz9_0 := blk_frozen BK422.out 0; have hfz9_1 := blk_frozen BK422.out 1; have hfz9_2 := blk_frozen BK422.out 2; have hfz9_3 := blk_frozen BK422.out 3; have hfz9_4 := blk_frozen BK422.out 4) | ((with_reducible refine gate_dst (N := 10) rfl ?_); refine Kd.R_lit k23 _ 23 ?hg (N := 10) ?hd (xs := ([(⟨a0_0, a0_1, a0_2, a0_3, a0_4⟩ : S23), (⟨a1_0, a1_1, a1_2, a1_3, a1_4⟩ : S23)] : List (S23))) (inner := [.int .i64 a0_0, .int .i64 a0_1, .int .i64 a0_2, .int .i64 a0_3, .int .i64 a0_4, .int .i64 a1_0, .int .i64 a1_1, .int .i64 a1_2, .int .i64 a1_3, .int .i64 a1_4]) (ok := fun _ => True) (okp := fun _ => True) ?hr ?hp (fun _ hk => hk) trivial (Below.refl _ _) (Nat.le_refl _) (by simp) ?_; (case hd => rfl); (case hg => rfl); (case hr => first | (go_simp; done) | (go_simp; rfl)); (case hp => exact (Reps.c5 (show Kd.M k23 _ _ _ (⟨a0_0, a0_1, a0_2, a0_3, a0_4⟩ : S23) [.int .i64 a0_0, .int .i64 a0_1, .int .i64 a0_2, .int .i64 a0_3, .int .i64 a0_4] from (k23_mkM _ _ _ (⟨a0_0, a0_1, a0_2, a0_3, a0_4⟩ : S23) )) (Reps.c5 (show Kd.M k23 _ _ _ (⟨a1_0, a1_1, a1_2, a1_3, a1_4⟩ : S23) [.int .i64 a1_0, .int .i64 a1_1, .int .i64 a1_2, .int .i64 a1_3, .int .i64 a1_4] from (k23_mkM _ _ _ (⟨a1_0, a1_1, a1_2, a1_3, a1_4⟩ : S23) )) (Reps.none _ _)))); intro v424 w10 ho11 hb hg_ hnew_; clear hg_ hnew_; (first | rw [← Ny423.out] at ho11 | (simp only [Int.reduceToNat] at ho11; rw [← Ny423.out] at ho11)); have n0_ := Aside0.mk (Kd.R_lower (Kd.R_newB (Kd.R_newB ho11 (g := gb421) (o := .cells #[.int .i64 a0_0, .int .i64 a0_1, .int .i64 a0_2, .int .i64 a0_3, .int .i64 a0_4] 23 (0, 0)) (by (with_reducible repeat (first | refine blk_drewN ?_ _ | refine blk_drew ?_ | refine blk_alloc ?_ _)); exact BK421.out)) (g := gb422) (o := .cells #[.int .i64 a1_0, .int .i64 a1_1, .int .i64 a1_2, .int .i64 a1_3, .int .i64 a1_4] 23 (0, 0)) (by (with_reducible repeat (first | refine blk_drewN ?_ _ | refine blk_drew ?_ | refine blk_alloc ?_ _)); exact BK422.out)) (below_size (by repeat (first | (with_reducible first | exact HB.out | apply below_alloc | apply pw_below_drewN | apply below_drew1 | refine below_set ?_ GE421.out | refine below_set ?_ GE422.out) | exact HB.out)))); have n1_ := Aside0.mk (blk_below (g := gb421) (o := .cells #[.int .i64 a0_0, .int .i64 a0_1, .int .i64 a0_2, .int .i64 a0_3, .int .i64 a0_4] 23 (0, 0)) (by (with_reducible repeat (first | refine blk_drewN ?_ _ | refine blk_drew ?_ | refine blk_alloc ?_ _)); exact BK421.out) hb); have n2_ := Aside0.mk (blk_below (g := gb422) (o := .cells #[.int .i64 a1_0, .int .i64 a1_1, .int .i64 a1_2, .int .i64 a1_3, .int .i64 a1_4] 23 (0, 0)) (by (with_reducible repeat (first | refine blk_drewN ?_ _ | refine blk_drew ?_ | refine blk_alloc ?_ _)); exact BK422.out) hb); have n3_ := Aside0.mk (below_step (by repeat (first | (with_reducible first | exact HB.out | apply below_alloc | apply pw_below_drewN | apply below_drew1 | refine below_set ?_ GE421.out | refine below_set ?_ GE422.out) | exact HB.out)) hb); clear BK421; clear BK422; clear HB; have HO425 := n0_; have BK421 := n1_; have BK422 := n2_; have HB := n3_; clear n0_ n1_ n2_ n3_; clear hb ho11; obtain ⟨Ao12, co12, eo12⟩ := Kd.R_slice HO425.out; subst eo12) | ((with_reducible refine gate_callee (f := 57) rfl ?_); refine goesL_ (some 11) rfl rfl Tryz.func57 (by kernel_rfl) rfl #[.slice Ao12 y423.length co12] rfl (by (try simp only [List.map_toArray, List.map_cons, List.map_nil]); first | done | rfl | (simp only [List.length_drop, List.length_take]; rfl)) ?_; (with_reducible refine (spoondriftref01_Checks.calls k _ _ y423 t426 _ ?side1 ?side2 A3.out).mono ?_); (case side1 => repeat (first | exact (Kd.R_reads' HO425.out).2.2 | (with_reducible refine Kd.C_alloc ?_ _) | (with_reducible refine Kd.C_drewN ?_ _) | (with_reducible refine Kd.C_drew ?_))); (case side2 => exact (Kd.R_reads' HO425.out).2.1); rintro e w13 ⟨rfl, hb⟩; refine ⟨_, rfl, ?_⟩; have n0_ := Aside0.mk (Kd.R_below (by (with_reducible repeat (first | apply Kd.R_alloc | apply Kd.R_drewN | apply Kd.R_drew)); exact HO425.out) hb); have n1_ := Aside0.mk (blk_below (g := gb421) (o := .cells #[.int .i64 a0_0, .int .i64 a0_1, .int .i64 a0_2, .int .i64 a0_3, .int .i64 a0_4] 23 (0, 0)) (by (with_reducible repeat (first | refine blk_drewN ?_ _ | refine blk_drew ?_ | refine blk_alloc ?_ _)); exact BK421.out) hb); have n2_ := Aside0.mk (blk_below (g := gb422) (o := .cells #[.int .i64 a1_0, .int .i64 a1_1, .int .i64 a1_2, .int .i64 a1_3, .int .i64 a1_4] 23 (0, 0)) (by (with_reducible repeat (first | refine blk_drewN ?_ _ | refine blk_drew ?_ | refine blk_alloc ?_ _)); exact BK422.out) hb); have n3_ := Aside0.mk (below_step (by repeat (first | (with_reducible first | exact HB.out | apply below_alloc | apply pw_below_drewN | apply below_drew1 | refine below_set ?_ GE421.out | refine below_set ?_ GE422.out) | exact HB.out)) hb); clear HO425; clear BK421; clear BK422; clear HB; have HO425 := n0_; have BK421 := n1_; have BK422 := n2_; have HB := n3_; clear n0_ n1_ n2_ n3_; (try clear hb); (try clear hb2); (try clear hk); (try clear hi)))
    (try simp only [Act.put, List.setIfInBounds_toArray, List.set_cons_zero, List.set_cons_succ])
    go_loopg [7] k (fun kq v7 w' => ∃ (x7_1 : Int), v7 = .int .i64 x7_1 ∧ Aside0 (spoondriftref01_Phase.l0 kq x7_1 a0_0 a0_1 a0_2 a0_3 a0_4 a1_0 a1_1 a1_2 a1_3 a1_4 = some (r1, r2)) ∧ Aside0 (kq ≤ k) ∧ Aside0 (w'.heap[gb421]? = some (.cells #[.int .i64 a0_0, .int .i64 a0_1, .int .i64 a0_2, .int .i64 a0_3, .int .i64 a0_4] 23 (0, 0))) ∧ Aside0 (w'.heap[gb422]? = some (.cells #[.int .i64 a1_0, .int .i64 a1_1, .int .i64 a1_2, .int .i64 a1_3, .int .i64 a1_4] 23 (0, 0))) ∧ Aside0 (Below w.heap.size w w'))
    case atStart => exact ⟨(0), (by first | rfl | (simp; done) | (simp [*]; done)), H', ⟨Nat.le_refl _⟩, ⟨by (with_reducible repeat (first | refine blk_drewN ?_ _ | refine blk_drew ?_ | refine blk_alloc ?_ _)); exact BK421.out⟩, ⟨by (with_reducible repeat (first | refine blk_drewN ?_ _ | refine blk_drew ?_ | refine blk_alloc ?_ _)); exact BK422.out⟩, ⟨by repeat (first | (with_reducible first | exact HB.out | apply below_alloc | apply pw_below_drewN | apply below_drew1 | refine below_set ?_ GE421.out | refine below_set ?_ GE422.out) | exact HB.out)⟩⟩
    case round =>
      clear H'
      try clear c2
      try clear p2
      try clear c4
      try clear c4b0
      try clear c4b1
      try clear c5
      try clear c7
      try clear hcz8_0
      try clear hcz8_1
      try clear hcz8_2
      try clear hcz8_3
      try clear hcz8_4
      try clear hcz9_0
      try clear hcz9_1
      try clear hcz9_2
      try clear hcz9_3
      try clear hcz9_4
      try clear hfz8_0
      try clear hfz8_1
      try clear hfz8_2
      try clear hfz8_3
      try clear hfz8_4
      try clear hfz9_0
      try clear hfz9_1
      try clear hfz9_2
      try clear hfz9_3
      try clear hfz9_4
      obtain ⟨x7_1, rfl, HA, HK1, BK421, BK422, HB⟩ := hrel
      cases gk with
      | zero => exact absurd HA.out (by simp [spoondriftref01_Phase.l0])
      | succ k1 =>
        have H := HA.out
        clear HA
        simp only [spoondriftref01_Phase.l0] at H
        by_cases c14 : x7_1 < 8
        · rw [if_pos c14] at H
          have c14b0 : decide (x7_1 < 8) = true := decide_eq_true c14
          clear c14
          replace H := Option.bind_eq_some_iff.mp H
          obtain ⟨⟨t427, t428, t429, t430, t431⟩, A150, H⟩ := H
          replace H : ((spoondriftref01_product.f a1_0 a1_1 a1_2 a1_3 a1_4 t427 t428 t429 t430 t431).bind fun bt432 => ((spoondriftref01_Equal.f k1 a0_0 a0_1 a0_2 a0_3 a0_4 bt432.1 bt432.2.1 bt432.2.2.1 bt432.2.2.2.1 bt432.2.2.2.2).bind fun t437 => (if t437 = true then (some (x7_1, 0)) else (spoondriftref01_Phase.l0 k1 (wrap64 (x7_1 + 1)) a0_0 a0_1 a0_2 a0_3 a0_4 a1_0 a1_1 a1_2 a1_3 a1_4)))) = some (r1, r2) := H
          have A15 := Aside0.mk A150
          clear A150
          replace H := Option.bind_eq_some_iff.mp H
          obtain ⟨⟨t432, t433, t434, t435, t436⟩, A160, H⟩ := H
          replace H : ((spoondriftref01_Equal.f k1 a0_0 a0_1 a0_2 a0_3 a0_4 t432 t433 t434 t435 t436).bind fun t437 => (if t437 = true then (some (x7_1, 0)) else (spoondriftref01_Phase.l0 k1 (wrap64 (x7_1 + 1)) a0_0 a0_1 a0_2 a0_3 a0_4 a1_0 a1_1 a1_2 a1_3 a1_4))) = some (r1, r2) := H
          have A16 := Aside0.mk A160
          clear A160
          replace H := Option.bind_eq_some_iff.mp H
          obtain ⟨t437, A170, H⟩ := H
          replace H : (if t437 = true then (some (x7_1, 0)) else (spoondriftref01_Phase.l0 k1 (wrap64 (x7_1 + 1)) a0_0 a0_1 a0_2 a0_3 a0_4 a1_0 a1_1 a1_2 a1_3 a1_4)) = some (r1, r2) := H
          have A17 := Aside0.mk A170
          clear A170
          by_cases c18 : t437 = true
          · subst c18
            have H1 : (some (x7_1, 0)) = some (r1, r2) := by rw [if_pos rfl] at H; exact H
            clear H
            have H := H1
            clear H1
            simp only [Option.some.injEq, Prod.mk.injEq] at H
            obtain ⟨rfl, rfl⟩ := H
            try go_wp2
            have n0_ := Aside0.mk (blk_drew BK421.out)
            have n1_ := Aside0.mk (blk_drew BK422.out)
            have n2_ := Aside0.mk (below_drew1 HB.out)
            clear BK421
            clear BK422
            clear HB
            have BK421 := n0_
            have BK422 := n1_
            have HB := n2_
            clear n0_ n1_ n2_
            refine start_ (n := 6) (S := fun w' => w'.cell? ⟨gb421, 0, none⟩ = some (.int .i64 a0_0) ∧ w'.cell? ⟨gb421, 1, none⟩ = some (.int .i64 a0_1) ∧ w'.cell? ⟨gb421, 2, none⟩ = some (.int .i64 a0_2) ∧ w'.cell? ⟨gb421, 3, none⟩ = some (.int .i64 a0_3) ∧ w'.cell? ⟨gb421, 4, none⟩ = some (.int .i64 a0_4) ∧ w'.cell? ⟨gb422, 0, none⟩ = some (.int .i64 a1_0) ∧ w'.cell? ⟨gb422, 1, none⟩ = some (.int .i64 a1_1) ∧ w'.cell? ⟨gb422, 2, none⟩ = some (.int .i64 a1_2) ∧ w'.cell? ⟨gb422, 3, none⟩ = some (.int .i64 a1_3) ∧ w'.cell? ⟨gb422, 4, none⟩ = some (.int .i64 a1_4)) (ds := []) #[false, false, false, false, false, false] (by kernel_rfl) rfl rfl ⟨(blk_cell BK421.out 0).trans rfl, (blk_cell BK421.out 1).trans rfl, (blk_cell BK421.out 2).trans rfl, (blk_cell BK421.out 3).trans rfl, (blk_cell BK421.out 4).trans rfl, (blk_cell BK422.out 0).trans rfl, (blk_cell BK422.out 1).trans rfl, (blk_cell BK422.out 2).trans rfl, (blk_cell BK422.out 3).trans rfl, (blk_cell BK422.out 4).trans rfl⟩ (fun hHeld => ?_)
            generalize wr.drew = w19 at BK421 BK422 HB hHeld ⊢
            refine pure_ (i := 2) (N := some 21) (v := ?_) (a' := ?_) #[false, false, true, false, false, false] rfl rfl (by kernel_rfl) (fun _ _ _ h => h) (Or.inl ⟨by rfl, ?_⟩) ?_ ?_
            rotate_left
            · intro w'
              go_simp
              with_reducible rfl
            rotate_left
            · simp only [Act.put, List.setIfInBounds_toArray, List.set_cons_zero, List.set_cons_succ, i64_w, i32_w]
              rfl
            refine take_ (i := 0) (N := some 19) (v := ?_) (a' := ?_) #[true, false, true, false, false, false] rfl rfl (by kernel_rfl) (fun _ _ _ h => h) (Or.inl ⟨by rfl, ?_⟩) hHeld ?_ ?_
            rotate_left
            · rintro w' ⟨s0, s1, s2, s3, s4, s5, s6, s7, s8, s9⟩
              go_simp
              with_reducible rfl
            rotate_left
            · simp only [Act.put, List.setIfInBounds_toArray, List.set_cons_zero, List.set_cons_succ, i64_w, i32_w]
              rfl
            refine take_ (i := 1) (N := some 20) (v := ?_) (a' := ?_) #[true, true, true, false, false, false] rfl rfl (by kernel_rfl) (fun _ _ _ h => h) (Or.inl ⟨by rfl, ?_⟩) hHeld ?_ ?_
            rotate_left
            · rintro w' ⟨s0, s1, s2, s3, s4, s5, s6, s7, s8, s9⟩
              go_simp
              with_reducible rfl
            rotate_left
            · simp only [Act.put, List.setIfInBounds_toArray, List.set_cons_zero, List.set_cons_succ, i64_w, i32_w]
              rfl
            refine one_ (i := 3) (N := some 22) #[true, true, true, true, false, false] rfl rfl (by kernel_rfl) (by decide) (fun K hK => ?_)
            refine goes_ Tryz.func36 (by kernel_rfl) rfl #[.int .i64 x7_1] (by rfl) rfl rfl (by (try simp only [List.map_toArray, List.map_cons, List.map_nil]); first | done | rfl | (simp only [List.length_drop, List.length_take]; rfl)) ?_
            with_reducible refine (spoondriftref01_Omega.calls k1 x7_1 t427 t428 t429 t430 t431 _ A15.out).mono ?_
            rintro e w20 ⟨rfl, hb⟩
            refine ⟨_, rfl, ?_⟩
            have n0_ := Aside0.mk (blk_below (g := gb421) (o := .cells #[.int .i64 a0_0, .int .i64 a0_1, .int .i64 a0_2, .int .i64 a0_3, .int .i64 a0_4] 23 (0, 0)) (by (with_reducible repeat (first | refine blk_drewN ?_ _ | refine blk_drew ?_ | refine blk_alloc ?_ _)); exact BK421.out) hb)
            have n1_ := Aside0.mk (blk_below (g := gb422) (o := .cells #[.int .i64 a1_0, .int .i64 a1_1, .int .i64 a1_2, .int .i64 a1_3, .int .i64 a1_4] 23 (0, 0)) (by (with_reducible repeat (first | refine blk_drewN ?_ _ | refine blk_drew ?_ | refine blk_alloc ?_ _)); exact BK422.out) hb)
            have n2_ := Aside0.mk (below_step (by repeat (first | (with_reducible first | exact HB.out | apply below_alloc | apply pw_below_drewN | apply below_drew1 | refine below_set ?_ GE421.out | refine below_set ?_ GE422.out) | exact HB.out)) hb)
            clear BK421
            clear BK422
            clear HB
            have BK421 := n0_
            have BK422 := n1_
            have HB := n2_
            clear n0_ n1_ n2_
            (try clear hb)
            (try clear hb2)
            (try clear hk)
            (try clear hi)
            refine hK.out _ _ ⟨(blk_cell BK421.out 0).trans rfl, (blk_cell BK421.out 1).trans rfl, (blk_cell BK421.out 2).trans rfl, (blk_cell BK421.out 3).trans rfl, (blk_cell BK421.out 4).trans rfl, (blk_cell BK422.out 0).trans rfl, (blk_cell BK422.out 1).trans rfl, (blk_cell BK422.out 2).trans rfl, (blk_cell BK422.out 3).trans rfl, (blk_cell BK422.out 4).trans rfl⟩ (fun hHeld => ?_)
            clear hK K
            refine norm_ (a' := ?_) ?_ ?_
            rotate_left
            · show Act.put _ (some 22) _ = _
              simp only [Act.put, List.setIfInBounds_toArray, List.set_cons_zero, List.set_cons_succ, i64_w, i32_w]
              rfl
            refine one_ (i := 4) (N := some 23) #[true, true, true, true, true, false] rfl rfl (by kernel_rfl) (by decide) (fun K hK => ?_)
            refine goes_ Tryz.func46 (by kernel_rfl) rfl #[.agg #[.int .i64 a1_0, .int .i64 a1_1, .int .i64 a1_2, .int .i64 a1_3, .int .i64 a1_4], .agg #[.int .i64 t427, .int .i64 t428, .int .i64 t429, .int .i64 t430, .int .i64 t431]] (by rfl) rfl rfl (by (try simp only [List.map_toArray, List.map_cons, List.map_nil]); first | done | rfl | (simp only [List.length_drop, List.length_take]; rfl)) ?_
            with_reducible refine (spoondriftref01_product.calls a1_0 a1_1 a1_2 a1_3 a1_4 t427 t428 t429 t430 t431 t432 t433 t434 t435 t436 _ A16.out).mono ?_
            rintro e w21 ⟨rfl, hb⟩
            refine ⟨_, rfl, ?_⟩
            have n0_ := Aside0.mk (blk_below (g := gb421) (o := .cells #[.int .i64 a0_0, .int .i64 a0_1, .int .i64 a0_2, .int .i64 a0_3, .int .i64 a0_4] 23 (0, 0)) (by (with_reducible repeat (first | refine blk_drewN ?_ _ | refine blk_drew ?_ | refine blk_alloc ?_ _)); exact BK421.out) hb)
            have n1_ := Aside0.mk (blk_below (g := gb422) (o := .cells #[.int .i64 a1_0, .int .i64 a1_1, .int .i64 a1_2, .int .i64 a1_3, .int .i64 a1_4] 23 (0, 0)) (by (with_reducible repeat (first | refine blk_drewN ?_ _ | refine blk_drew ?_ | refine blk_alloc ?_ _)); exact BK422.out) hb)
            have n2_ := Aside0.mk (below_step (by repeat (first | (with_reducible first | exact HB.out | apply below_alloc | apply pw_below_drewN | apply below_drew1 | refine below_set ?_ GE421.out | refine below_set ?_ GE422.out) | exact HB.out)) hb)
            clear BK421
            clear BK422
            clear HB
            have BK421 := n0_
            have BK422 := n1_
            have HB := n2_
            clear n0_ n1_ n2_
            (try clear hb)
            (try clear hb2)
            (try clear hk)
            (try clear hi)
            refine hK.out _ _ ⟨(blk_cell BK421.out 0).trans rfl, (blk_cell BK421.out 1).trans rfl, (blk_cell BK421.out 2).trans rfl, (blk_cell BK421.out 3).trans rfl, (blk_cell BK421.out 4).trans rfl, (blk_cell BK422.out 0).trans rfl, (blk_cell BK422.out 1).trans rfl, (blk_cell BK422.out 2).trans rfl, (blk_cell BK422.out 3).trans rfl, (blk_cell BK422.out 4).trans rfl⟩ (fun hHeld => ?_)
            clear hK K
            refine norm_ (a' := ?_) ?_ ?_
            rotate_left
            · show Act.put _ (some 23) _ = _
              simp only [Act.put, List.setIfInBounds_toArray, List.set_cons_zero, List.set_cons_succ, i64_w, i32_w]
              rfl
            refine one_ (i := 5) (N := some 24) #[true, true, true, true, true, true] rfl rfl (by kernel_rfl) (by decide) (fun K hK => ?_)
            refine goes_ Tryz.func63 (by kernel_rfl) rfl #[.agg #[.int .i64 a0_0, .int .i64 a0_1, .int .i64 a0_2, .int .i64 a0_3, .int .i64 a0_4], .agg #[.int .i64 t432, .int .i64 t433, .int .i64 t434, .int .i64 t435, .int .i64 t436]] (by rfl) rfl rfl (by (try simp only [List.map_toArray, List.map_cons, List.map_nil]); first | done | rfl | (simp only [List.length_drop, List.length_take]; rfl)) ?_
            with_reducible refine (spoondriftref01_Equal.calls k1 a0_0 a0_1 a0_2 a0_3 a0_4 t432 t433 t434 t435 t436 true _ A17.out).mono ?_
            rintro e w22 ⟨rfl, hb⟩
            refine ⟨_, rfl, ?_⟩
            have n0_ := Aside0.mk (blk_below (g := gb421) (o := .cells #[.int .i64 a0_0, .int .i64 a0_1, .int .i64 a0_2, .int .i64 a0_3, .int .i64 a0_4] 23 (0, 0)) (by (with_reducible repeat (first | refine blk_drewN ?_ _ | refine blk_drew ?_ | refine blk_alloc ?_ _)); exact BK421.out) hb)
            have n1_ := Aside0.mk (blk_below (g := gb422) (o := .cells #[.int .i64 a1_0, .int .i64 a1_1, .int .i64 a1_2, .int .i64 a1_3, .int .i64 a1_4] 23 (0, 0)) (by (with_reducible repeat (first | refine blk_drewN ?_ _ | refine blk_drew ?_ | refine blk_alloc ?_ _)); exact BK422.out) hb)
            have n2_ := Aside0.mk (below_step (by repeat (first | (with_reducible first | exact HB.out | apply below_alloc | apply pw_below_drewN | apply below_drew1 | refine below_set ?_ GE421.out | refine below_set ?_ GE422.out) | exact HB.out)) hb)
            clear BK421
            clear BK422
            clear HB
            have BK421 := n0_
            have BK422 := n1_
            have HB := n2_
            clear n0_ n1_ n2_
            (try clear hb)
            (try clear hb2)
            (try clear hk)
            (try clear hi)
            refine hK.out _ _ ⟨(blk_cell BK421.out 0).trans rfl, (blk_cell BK421.out 1).trans rfl, (blk_cell BK421.out 2).trans rfl, (blk_cell BK421.out 3).trans rfl, (blk_cell BK421.out 4).trans rfl, (blk_cell BK422.out 0).trans rfl, (blk_cell BK422.out 1).trans rfl, (blk_cell BK422.out 2).trans rfl, (blk_cell BK422.out 3).trans rfl, (blk_cell BK422.out 4).trans rfl⟩ (fun hHeld => ?_)
            clear hK K
            refine norm_ (a' := ?_) ?_ ?_
            rotate_left
            · show Act.put _ (some 24) _ = _
              simp only [Act.put, List.setIfInBounds_toArray, List.set_cons_zero, List.set_cons_succ, i64_w, i32_w]
              rfl
            refine done_ (by kernel_rfl) ?_
            try go_wp2
            go_ret2
            exact ⟨by first | rfl | (simp [errW_none, errW_some] <;> rfl) | (simp [*, errW_none, errW_some] <;> rfl), by repeat (first | (with_reducible first | exact HB.out | apply below_alloc | apply pw_below_drewN | apply below_drew1 | refine below_set ?_ GE421.out | refine below_set ?_ GE422.out) | exact HB.out)⟩
          · replace c18 := Bool.eq_false_iff.mpr c18
            subst c18
            have H1 : (spoondriftref01_Phase.l0 k1 (wrap64 (x7_1 + 1)) a0_0 a0_1 a0_2 a0_3 a0_4 a1_0 a1_1 a1_2 a1_3 a1_4) = some (r1, r2) := by rw [if_neg (show ¬ (false = true) by decide)] at H; exact H
            clear H
            have H := H1
            clear H1
            have H' := Aside0.mk H
            clear H
            try go_wp2
            have n0_ := Aside0.mk (blk_drew BK421.out)
            have n1_ := Aside0.mk (blk_drew BK422.out)
            have n2_ := Aside0.mk (below_drew1 HB.out)
            clear BK421
            clear BK422
            clear HB
            have BK421 := n0_
            have BK422 := n1_
            have HB := n2_
            clear n0_ n1_ n2_
            refine start_ (n := 6) (S := fun w' => w'.cell? ⟨gb421, 0, none⟩ = some (.int .i64 a0_0) ∧ w'.cell? ⟨gb421, 1, none⟩ = some (.int .i64 a0_1) ∧ w'.cell? ⟨gb421, 2, none⟩ = some (.int .i64 a0_2) ∧ w'.cell? ⟨gb421, 3, none⟩ = some (.int .i64 a0_3) ∧ w'.cell? ⟨gb421, 4, none⟩ = some (.int .i64 a0_4) ∧ w'.cell? ⟨gb422, 0, none⟩ = some (.int .i64 a1_0) ∧ w'.cell? ⟨gb422, 1, none⟩ = some (.int .i64 a1_1) ∧ w'.cell? ⟨gb422, 2, none⟩ = some (.int .i64 a1_2) ∧ w'.cell? ⟨gb422, 3, none⟩ = some (.int .i64 a1_3) ∧ w'.cell? ⟨gb422, 4, none⟩ = some (.int .i64 a1_4)) (ds := []) #[false, false, false, false, false, false] (by kernel_rfl) rfl rfl ⟨(blk_cell BK421.out 0).trans rfl, (blk_cell BK421.out 1).trans rfl, (blk_cell BK421.out 2).trans rfl, (blk_cell BK421.out 3).trans rfl, (blk_cell BK421.out 4).trans rfl, (blk_cell BK422.out 0).trans rfl, (blk_cell BK422.out 1).trans rfl, (blk_cell BK422.out 2).trans rfl, (blk_cell BK422.out 3).trans rfl, (blk_cell BK422.out 4).trans rfl⟩ (fun hHeld => ?_)
            generalize wr.drew = w23 at BK421 BK422 HB hHeld ⊢
            refine pure_ (i := 2) (N := some 21) (v := ?_) (a' := ?_) #[false, false, true, false, false, false] rfl rfl (by kernel_rfl) (fun _ _ _ h => h) (Or.inl ⟨by rfl, ?_⟩) ?_ ?_
            rotate_left
            · intro w'
              go_simp
              with_reducible rfl
            rotate_left
            · simp only [Act.put, List.setIfInBounds_toArray, List.set_cons_zero, List.set_cons_succ, i64_w, i32_w]
              rfl
            refine take_ (i := 0) (N := some 19) (v := ?_) (a' := ?_) #[true, false, true, false, false, false] rfl rfl (by kernel_rfl) (fun _ _ _ h => h) (Or.inl ⟨by rfl, ?_⟩) hHeld ?_ ?_
            rotate_left
            · rintro w' ⟨s0, s1, s2, s3, s4, s5, s6, s7, s8, s9⟩
              go_simp
              with_reducible rfl
            rotate_left
            · simp only [Act.put, List.setIfInBounds_toArray, List.set_cons_zero, List.set_cons_succ, i64_w, i32_w]
              rfl
            refine take_ (i := 1) (N := some 20) (v := ?_) (a' := ?_) #[true, true, true, false, false, false] rfl rfl (by kernel_rfl) (fun _ _ _ h => h) (Or.inl ⟨by rfl, ?_⟩) hHeld ?_ ?_
            rotate_left
            · rintro w' ⟨s0, s1, s2, s3, s4, s5, s6, s7, s8, s9⟩
              go_simp
              with_reducible rfl
            rotate_left
            · simp only [Act.put, List.setIfInBounds_toArray, List.set_cons_zero, List.set_cons_succ, i64_w, i32_w]
              rfl
            refine one_ (i := 3) (N := some 22) #[true, true, true, true, false, false] rfl rfl (by kernel_rfl) (by decide) (fun K hK => ?_)
            refine goes_ Tryz.func36 (by kernel_rfl) rfl #[.int .i64 x7_1] (by rfl) rfl rfl (by (try simp only [List.map_toArray, List.map_cons, List.map_nil]); first | done | rfl | (simp only [List.length_drop, List.length_take]; rfl)) ?_
            with_reducible refine (spoondriftref01_Omega.calls k1 x7_1 t427 t428 t429 t430 t431 _ A15.out).mono ?_
            rintro e w24 ⟨rfl, hb⟩
            refine ⟨_, rfl, ?_⟩
            have n0_ := Aside0.mk (blk_below (g := gb421) (o := .cells #[.int .i64 a0_0, .int .i64 a0_1, .int .i64 a0_2, .int .i64 a0_3, .int .i64 a0_4] 23 (0, 0)) (by (with_reducible repeat (first | refine blk_drewN ?_ _ | refine blk_drew ?_ | refine blk_alloc ?_ _)); exact BK421.out) hb)
            have n1_ := Aside0.mk (blk_below (g := gb422) (o := .cells #[.int .i64 a1_0, .int .i64 a1_1, .int .i64 a1_2, .int .i64 a1_3, .int .i64 a1_4] 23 (0, 0)) (by (with_reducible repeat (first | refine blk_drewN ?_ _ | refine blk_drew ?_ | refine blk_alloc ?_ _)); exact BK422.out) hb)
            have n2_ := Aside0.mk (below_step (by repeat (first | (with_reducible first | exact HB.out | apply below_alloc | apply pw_below_drewN | apply below_drew1 | refine below_set ?_ GE421.out | refine below_set ?_ GE422.out) | exact HB.out)) hb)
            clear BK421
            clear BK422
            clear HB
            have BK421 := n0_
            have BK422 := n1_
            have HB := n2_
            clear n0_ n1_ n2_
            (try clear hb)
            (try clear hb2)
            (try clear hk)
            (try clear hi)
            refine hK.out _ _ ⟨(blk_cell BK421.out 0).trans rfl, (blk_cell BK421.out 1).trans rfl, (blk_cell BK421.out 2).trans rfl, (blk_cell BK421.out 3).trans rfl, (blk_cell BK421.out 4).trans rfl, (blk_cell BK422.out 0).trans rfl, (blk_cell BK422.out 1).trans rfl, (blk_cell BK422.out 2).trans rfl, (blk_cell BK422.out 3).trans rfl, (blk_cell BK422.out 4).trans rfl⟩ (fun hHeld => ?_)
            clear hK K
            refine norm_ (a' := ?_) ?_ ?_
            rotate_left
            · show Act.put _ (some 22) _ = _
              simp only [Act.put, List.setIfInBounds_toArray, List.set_cons_zero, List.set_cons_succ, i64_w, i32_w]
              rfl
            refine one_ (i := 4) (N := some 23) #[true, true, true, true, true, false] rfl rfl (by kernel_rfl) (by decide) (fun K hK => ?_)
            refine goes_ Tryz.func46 (by kernel_rfl) rfl #[.agg #[.int .i64 a1_0, .int .i64 a1_1, .int .i64 a1_2, .int .i64 a1_3, .int .i64 a1_4], .agg #[.int .i64 t427, .int .i64 t428, .int .i64 t429, .int .i64 t430, .int .i64 t431]] (by rfl) rfl rfl (by (try simp only [List.map_toArray, List.map_cons, List.map_nil]); first | done | rfl | (simp only [List.length_drop, List.length_take]; rfl)) ?_
            with_reducible refine (spoondriftref01_product.calls a1_0 a1_1 a1_2 a1_3 a1_4 t427 t428 t429 t430 t431 t432 t433 t434 t435 t436 _ A16.out).mono ?_
            rintro e w25 ⟨rfl, hb⟩
            refine ⟨_, rfl, ?_⟩
            have n0_ := Aside0.mk (blk_below (g := gb421) (o := .cells #[.int .i64 a0_0, .int .i64 a0_1, .int .i64 a0_2, .int .i64 a0_3, .int .i64 a0_4] 23 (0, 0)) (by (with_reducible repeat (first | refine blk_drewN ?_ _ | refine blk_drew ?_ | refine blk_alloc ?_ _)); exact BK421.out) hb)
            have n1_ := Aside0.mk (blk_below (g := gb422) (o := .cells #[.int .i64 a1_0, .int .i64 a1_1, .int .i64 a1_2, .int .i64 a1_3, .int .i64 a1_4] 23 (0, 0)) (by (with_reducible repeat (first | refine blk_drewN ?_ _ | refine blk_drew ?_ | refine blk_alloc ?_ _)); exact BK422.out) hb)
            have n2_ := Aside0.mk (below_step (by repeat (first | (with_reducible first | exact HB.out | apply below_alloc | apply pw_below_drewN | apply below_drew1 | refine below_set ?_ GE421.out | refine below_set ?_ GE422.out) | exact HB.out)) hb)
            clear BK421
            clear BK422
            clear HB
            have BK421 := n0_
            have BK422 := n1_
            have HB := n2_
            clear n0_ n1_ n2_
            (try clear hb)
            (try clear hb2)
            (try clear hk)
            (try clear hi)
            refine hK.out _ _ ⟨(blk_cell BK421.out 0).trans rfl, (blk_cell BK421.out 1).trans rfl, (blk_cell BK421.out 2).trans rfl, (blk_cell BK421.out 3).trans rfl, (blk_cell BK421.out 4).trans rfl, (blk_cell BK422.out 0).trans rfl, (blk_cell BK422.out 1).trans rfl, (blk_cell BK422.out 2).trans rfl, (blk_cell BK422.out 3).trans rfl, (blk_cell BK422.out 4).trans rfl⟩ (fun hHeld => ?_)
            clear hK K
            refine norm_ (a' := ?_) ?_ ?_
            rotate_left
            · show Act.put _ (some 23) _ = _
              simp only [Act.put, List.setIfInBounds_toArray, List.set_cons_zero, List.set_cons_succ, i64_w, i32_w]
              rfl
            refine one_ (i := 5) (N := some 24) #[true, true, true, true, true, true] rfl rfl (by kernel_rfl) (by decide) (fun K hK => ?_)
            refine goes_ Tryz.func63 (by kernel_rfl) rfl #[.agg #[.int .i64 a0_0, .int .i64 a0_1, .int .i64 a0_2, .int .i64 a0_3, .int .i64 a0_4], .agg #[.int .i64 t432, .int .i64 t433, .int .i64 t434, .int .i64 t435, .int .i64 t436]] (by rfl) rfl rfl (by (try simp only [List.map_toArray, List.map_cons, List.map_nil]); first | done | rfl | (simp only [List.length_drop, List.length_take]; rfl)) ?_
            with_reducible refine (spoondriftref01_Equal.calls k1 a0_0 a0_1 a0_2 a0_3 a0_4 t432 t433 t434 t435 t436 false _ A17.out).mono ?_
            rintro e w26 ⟨rfl, hb⟩
            refine ⟨_, rfl, ?_⟩
            have n0_ := Aside0.mk (blk_below (g := gb421) (o := .cells #[.int .i64 a0_0, .int .i64 a0_1, .int .i64 a0_2, .int .i64 a0_3, .int .i64 a0_4] 23 (0, 0)) (by (with_reducible repeat (first | refine blk_drewN ?_ _ | refine blk_drew ?_ | refine blk_alloc ?_ _)); exact BK421.out) hb)
            have n1_ := Aside0.mk (blk_below (g := gb422) (o := .cells #[.int .i64 a1_0, .int .i64 a1_1, .int .i64 a1_2, .int .i64 a1_3, .int .i64 a1_4] 23 (0, 0)) (by (with_reducible repeat (first | refine blk_drewN ?_ _ | refine blk_drew ?_ | refine blk_alloc ?_ _)); exact BK422.out) hb)
            have n2_ := Aside0.mk (below_step (by repeat (first | (with_reducible first | exact HB.out | apply below_alloc | apply pw_below_drewN | apply below_drew1 | refine below_set ?_ GE421.out | refine below_set ?_ GE422.out) | exact HB.out)) hb)
            clear BK421
            clear BK422
            clear HB
            have BK421 := n0_
            have BK422 := n1_
            have HB := n2_
            clear n0_ n1_ n2_
            (try clear hb)
            (try clear hb2)
            (try clear hk)
            (try clear hi)
            refine hK.out _ _ ⟨(blk_cell BK421.out 0).trans rfl, (blk_cell BK421.out 1).trans rfl, (blk_cell BK421.out 2).trans rfl, (blk_cell BK421.out 3).trans rfl, (blk_cell BK421.out 4).trans rfl, (blk_cell BK422.out 0).trans rfl, (blk_cell BK422.out 1).trans rfl, (blk_cell BK422.out 2).trans rfl, (blk_cell BK422.out 3).trans rfl, (blk_cell BK422.out 4).trans rfl⟩ (fun hHeld => ?_)
            clear hK K
            refine norm_ (a' := ?_) ?_ ?_
            rotate_left
            · show Act.put _ (some 24) _ = _
              simp only [Act.put, List.setIfInBounds_toArray, List.set_cons_zero, List.set_cons_succ, i64_w, i32_w]
              rfl
            refine done_ (by kernel_rfl) ?_
            try go_wp2
            go_roundg k1
            case measure => have := HK1.out; omega
            case rel => exact ⟨(wrap64 (x7_1 + 1)), (by first | rfl | (simp; done) | (simp [*]; done)), H', ⟨by have := HK1.out; omega⟩, ⟨by (with_reducible repeat (first | refine blk_drewN ?_ _ | refine blk_drew ?_ | refine blk_alloc ?_ _)); exact BK421.out⟩, ⟨by (with_reducible repeat (first | refine blk_drewN ?_ _ | refine blk_drew ?_ | refine blk_alloc ?_ _)); exact BK422.out⟩, ⟨by repeat (first | (with_reducible first | exact HB.out | apply below_alloc | apply pw_below_drewN | apply below_drew1 | refine below_set ?_ GE421.out | refine below_set ?_ GE422.out) | exact HB.out)⟩⟩
        · rw [if_neg c14] at H
          have c14b0 : decide (x7_1 < 8) = false := decide_eq_false c14
          clear c14
          simp only [Option.some.injEq, Prod.mk.injEq] at H
          obtain ⟨rfl, rfl⟩ := H
          go_wp2
          go_ret2
          exact ⟨by first | rfl | (simp [errW_none, errW_some] <;> rfl) | (simp [*, errW_none, errW_some] <;> rfl), by repeat (first | (with_reducible first | exact HB.out | apply below_alloc | apply pw_below_drewN | apply below_drew1 | refine below_set ?_ GE421.out | refine below_set ?_ GE422.out) | exact HB.out)⟩
  · rw [if_neg c4] at H
    have c4b0 : (t426 == 0) = false := beq_eq_false_iff_ne.mpr c4
    have c4b1 : (t426 != 0) = true := bne_iff_ne.mpr c4
    simp only [Option.some.injEq, Prod.mk.injEq] at H
    obtain ⟨rfl, rfl⟩ := H
    go_enter Tryz.func25, Tryz.ntmps25
    go_wp2_with (first | ((with_reducible refine gate_dst (N := 2) rfl ?_); refine box_event ?hg (N := 2) ?hd (cs := #[.int .i64 a0_0, .int .i64 a0_1, .int .i64 a0_2, .int .i64 a0_3, .int .i64 a0_4]) (t := 23) ?hr ?_; (case hd => rfl); (case hg => rfl); (case hr => first | (go_simp; done) | (go_simp; rfl)); intro gb421 hg w27 hbox hb; have n0_ := Aside0.mk (below_step (by repeat (first | (with_reducible first | exact HB.out | apply below_alloc | apply pw_below_drewN | apply below_drew1) | exact HB.out)) hb); have n1_ := Aside0.mk (hbox); have n2_ := Aside0.mk ((by rw [hg]; exact (below_size (by repeat (first | (with_reducible first | exact HB.out | apply below_alloc | apply pw_below_drewN | apply below_drew1) | exact HB.out))) : w.heap.size ≤ gb421)); have n3_ := Aside0.mk ((by rw [hg]; exact (below_size (by repeat (first | (with_reducible first | exact HB.out | apply below_alloc | apply pw_below_drewN | apply below_drew1) | exact HB.out))) : w.heap.size ≤ gb421)); clear HB; have HB := n0_; have BK421 := n1_; have GW421 := n2_; have GE421 := n3_; clear n0_ n1_ n2_ n3_; clear hb hbox hg) | ((with_reducible refine gate_dst (N := 3) rfl ?_); refine box_event ?hg (N := 3) ?hd (cs := #[.int .i64 a1_0, .int .i64 a1_1, .int .i64 a1_2, .int .i64 a1_3, .int .i64 a1_4]) (t := 23) ?hr ?_; (case hd => rfl); (case hg => rfl); (case hr => first | (go_simp; done) | (go_simp; rfl)); intro gb422 hg w28 hbox hb; have n0_ := Aside0.mk (blk_below (g := gb421) (o := .cells #[.int .i64 a0_0, .int .i64 a0_1, .int .i64 a0_2, .int .i64 a0_3, .int .i64 a0_4] 23 (0, 0)) (by (with_reducible repeat (first | refine blk_drewN ?_ _ | refine blk_drew ?_ | refine blk_alloc ?_ _)); exact BK421.out) hb); have n1_ := Aside0.mk (below_step (by repeat (first | (with_reducible first | exact HB.out | apply below_alloc | apply pw_below_drewN | apply below_drew1 | refine below_set ?_ GE421.out) | exact HB.out)) hb); have n2_ := Aside0.mk (hbox); have n3_ := Aside0.mk ((by rw [hg]; exact (below_size (by repeat (first | (with_reducible first | exact HB.out | apply below_alloc | apply pw_below_drewN | apply below_drew1 | refine below_set ?_ GE421.out) | exact HB.out))) : w.heap.size ≤ gb422)); have n4_ := Aside0.mk ((by rw [hg]; exact (below_size (by repeat (first | (with_reducible first | exact HB.out | apply below_alloc | apply pw_below_drewN | apply below_drew1 | refine below_set ?_ GE421.out) | exact HB.out))) : w.heap.size ≤ gb422)); have n5_ := Aside0.mk ((by rw [hg]; exact Nat.ne_of_lt (blk_lt (g := gb421) (o := .cells #[.int .i64 a0_0, .int .i64 a0_1, .int .i64 a0_2, .int .i64 a0_3, .int .i64 a0_4] 23 (0, 0)) (by (with_reducible repeat (first | refine blk_drewN ?_ _ | refine blk_drew ?_ | refine blk_alloc ?_ _)); exact BK421.out)) : gb421 ≠ gb422)); have n6_ := Aside0.mk ((by rw [hg]; exact Nat.ne_of_gt (blk_lt (g := gb421) (o := .cells #[.int .i64 a0_0, .int .i64 a0_1, .int .i64 a0_2, .int .i64 a0_3, .int .i64 a0_4] 23 (0, 0)) (by (with_reducible repeat (first | refine blk_drewN ?_ _ | refine blk_drew ?_ | refine blk_alloc ?_ _)); exact BK421.out)) : gb422 ≠ gb421)); clear BK421; clear HB; have BK421 := n0_; have HB := n1_; have BK422 := n2_; have GW422 := n3_; have GE422 := n4_; have NB421_422 := n5_; have NB422_421 := n6_; clear n0_ n1_ n2_ n3_ n4_ n5_ n6_; clear hb hbox hg; have hnb29 := NB421_422.out; have hnc29 := NB422_421.out; have hcz30_0 : w28.cell? ⟨gb421, 0, none⟩ = some (.int .i64 a0_0) := (blk_cell BK421.out 0).trans rfl; have hcz30_1 : w28.cell? ⟨gb421, 1, none⟩ = some (.int .i64 a0_1) := (blk_cell BK421.out 1).trans rfl; have hcz30_2 : w28.cell? ⟨gb421, 2, none⟩ = some (.int .i64 a0_2) := (blk_cell BK421.out 2).trans rfl; have hcz30_3 : w28.cell? ⟨gb421, 3, none⟩ = some (.int .i64 a0_3) := (blk_cell BK421.out 3).trans rfl; have hcz30_4 : w28.cell? ⟨gb421, 4, none⟩ = some (.int .i64 a0_4) := (blk_cell BK421.out 4).trans rfl; have hfz30_0 := blk_frozen BK421.out 0; have hfz30_1 := blk_frozen BK421.out 1; have hfz30_2 := blk_frozen BK421.out 2; have hfz30_3 := blk_frozen BK421.out 3; have hfz30_4 := blk_frozen BK421.out 4; have hcz31_0 : w28.cell? ⟨gb422, 0, none⟩ = some (.int .i64 a1_0) := (blk_cell BK422.out 0).trans rfl; have hcz31_1 : w28.cell? ⟨gb422, 1, none⟩ = some (.int .i64 a1_1) := (blk_cell BK422.out 1).trans rfl; have hcz31_2 : w28.cell? ⟨gb422, 2, none⟩ = some (.int .i64 a1_2) := (blk_cell BK422.out 2).trans rfl; have hcz31_3 : w28.cell? ⟨gb422, 3, none⟩ = some (.int .i64 a1_3) := (blk_cell BK422.out 3).trans rfl; have hcz31_4 : w28.cell? ⟨gb422, 4, none⟩ = some (.int .i64 a1_4) := (blk_cell BK422.out 4).trans rfl; have hfz31_0 := blk_frozen BK422.out 0; have hfz31_1 := blk_frozen BK422.out 1; have hfz31_2 := blk_frozen BK422.out 2; have hfz31_3 := blk_frozen BK422.out 3; have hfz31_4 := blk_frozen BK422.out 4) | ((with_reducible refine gate_dst (N := 10) rfl ?_); refine Kd.R_lit k23 _ 23 ?hg (N := 10) ?hd (xs := ([(⟨a0_0, a0_1, a0_2, a0_3, a0_4⟩ : S23), (⟨a1_0, a1_1, a1_2, a1_3, a1_4⟩ : S23)] : List (S23))) (inner := [.int .i64 a0_0, .int .i64 a0_1, .int .i64 a0_2, .int .i64 a0_3, .int .i64 a0_4, .int .i64 a1_0, .int .i64 a1_1, .int .i64 a1_2, .int .i64 a1_3, .int .i64 a1_4]) (ok := fun _ => True) (okp := fun _ => True) ?hr ?hp (fun _ hk => hk) trivial (Below.refl _ _) (Nat.le_refl _) (by simp) ?_; (case hd => rfl); (case hg => rfl); (case hr => first | (go_simp; done) | (go_simp; rfl)); (case hp => exact (Reps.c5 (show Kd.M k23 _ _ _ (⟨a0_0, a0_1, a0_2, a0_3, a0_4⟩ : S23) [.int .i64 a0_0, .int .i64 a0_1, .int .i64 a0_2, .int .i64 a0_3, .int .i64 a0_4] from (k23_mkM _ _ _ (⟨a0_0, a0_1, a0_2, a0_3, a0_4⟩ : S23) )) (Reps.c5 (show Kd.M k23 _ _ _ (⟨a1_0, a1_1, a1_2, a1_3, a1_4⟩ : S23) [.int .i64 a1_0, .int .i64 a1_1, .int .i64 a1_2, .int .i64 a1_3, .int .i64 a1_4] from (k23_mkM _ _ _ (⟨a1_0, a1_1, a1_2, a1_3, a1_4⟩ : S23) )) (Reps.none _ _)))); intro v424 w32 ho33 hb hg_ hnew_; clear hg_ hnew_; (first | rw [← Ny423.out] at ho33 | (simp only [Int.reduceToNat] at ho33; rw [← Ny423.out] at ho33)); have n0_ := Aside0.mk (Kd.R_lower (Kd.R_newB (Kd.R_newB ho33 (g := gb421) (o := .cells #[.int .i64 a0_0, .int .i64 a0_1, .int .i64 a0_2, .int .i64 a0_3, .int .i64 a0_4] 23 (0, 0)) (by (with_reducible repeat (first | refine blk_drewN ?_ _ | refine blk_drew ?_ | refine blk_alloc ?_ _)); exact BK421.out)) (g := gb422) (o := .cells #[.int .i64 a1_0, .int .i64 a1_1, .int .i64 a1_2, .int .i64 a1_3, .int .i64 a1_4] 23 (0, 0)) (by (with_reducible repeat (first | refine blk_drewN ?_ _ | refine blk_drew ?_ | refine blk_alloc ?_ _)); exact BK422.out)) (below_size (by repeat (first | (with_reducible first | exact HB.out | apply below_alloc | apply pw_below_drewN | apply below_drew1 | refine below_set ?_ GE421.out | refine below_set ?_ GE422.out) | exact HB.out)))); have n1_ := Aside0.mk (blk_below (g := gb421) (o := .cells #[.int .i64 a0_0, .int .i64 a0_1, .int .i64 a0_2, .int .i64 a0_3, .int .i64 a0_4] 23 (0, 0)) (by (with_reducible repeat (first | refine blk_drewN ?_ _ | refine blk_drew ?_ | refine blk_alloc ?_ _)); exact BK421.out) hb); have n2_ := Aside0.mk (blk_below (g := gb422) (o := .cells #[.int .i64 a1_0, .int .i64 a1_1, .int .i64 a1_2, .int .i64 a1_3, .int .i64 a1_4] 23 (0, 0)) (by (with_reducible repeat (first | refine blk_drewN ?_ _ | refine blk_drew ?_ | refine blk_alloc ?_ _)); exact BK422.out) hb); have n3_ := Aside0.mk (below_step (by repeat (first | (with_reducible first | exact HB.out | apply below_alloc | apply pw_below_drewN | apply below_drew1 | refine below_set ?_ GE421.out | refine below_set ?_ GE422.out) | exact HB.out)) hb); clear BK421; clear BK422; clear HB; have HO425 := n0_; have BK421 := n1_; have BK422 := n2_; have HB := n3_; clear n0_ n1_ n2_ n3_; clear hb ho33; obtain ⟨Ao34, co34, eo34⟩ := Kd.R_slice HO425.out; subst eo34) | ((with_reducible refine gate_callee (f := 57) rfl ?_); refine goesL_ (some 11) rfl rfl Tryz.func57 (by kernel_rfl) rfl #[.slice Ao34 y423.length co34] rfl (by (try simp only [List.map_toArray, List.map_cons, List.map_nil]); first | done | rfl | (simp only [List.length_drop, List.length_take]; rfl)) ?_; (with_reducible refine (spoondriftref01_Checks.calls k _ _ y423 t426 _ ?side1 ?side2 A3.out).mono ?_); (case side1 => repeat (first | exact (Kd.R_reads' HO425.out).2.2 | (with_reducible refine Kd.C_alloc ?_ _) | (with_reducible refine Kd.C_drewN ?_ _) | (with_reducible refine Kd.C_drew ?_))); (case side2 => exact (Kd.R_reads' HO425.out).2.1); rintro e w35 ⟨rfl, hb⟩; refine ⟨_, rfl, ?_⟩; have n0_ := Aside0.mk (Kd.R_below (by (with_reducible repeat (first | apply Kd.R_alloc | apply Kd.R_drewN | apply Kd.R_drew)); exact HO425.out) hb); have n1_ := Aside0.mk (blk_below (g := gb421) (o := .cells #[.int .i64 a0_0, .int .i64 a0_1, .int .i64 a0_2, .int .i64 a0_3, .int .i64 a0_4] 23 (0, 0)) (by (with_reducible repeat (first | refine blk_drewN ?_ _ | refine blk_drew ?_ | refine blk_alloc ?_ _)); exact BK421.out) hb); have n2_ := Aside0.mk (blk_below (g := gb422) (o := .cells #[.int .i64 a1_0, .int .i64 a1_1, .int .i64 a1_2, .int .i64 a1_3, .int .i64 a1_4] 23 (0, 0)) (by (with_reducible repeat (first | refine blk_drewN ?_ _ | refine blk_drew ?_ | refine blk_alloc ?_ _)); exact BK422.out) hb); have n3_ := Aside0.mk (below_step (by repeat (first | (with_reducible first | exact HB.out | apply below_alloc | apply pw_below_drewN | apply below_drew1 | refine below_set ?_ GE421.out | refine below_set ?_ GE422.out) | exact HB.out)) hb); clear HO425; clear BK421; clear BK422; clear HB; have HO425 := n0_; have BK421 := n1_; have BK422 := n2_; have HB := n3_; clear n0_ n1_ n2_ n3_; (try clear hb); (try clear hb2); (try clear hk); (try clear hi)))
    go_ret2
    exact ⟨by first | rfl | (simp [errW_none, errW_some] <;> rfl) | (simp [*, errW_none, errW_some] <;> rfl), by repeat (first | (with_reducible first | exact HB.out | apply below_alloc | apply pw_below_drewN | apply below_drew1 | refine below_set ?_ GE421.out | refine below_set ?_ GE422.out) | exact HB.out)⟩
def spoondriftlaw01_RingOrders.f (k : Nat) (a0_0 : Int) (a0_1 : Int) (a0_2 : Int) (a0_3 : Int) (a0_4 : Int) (a1_0 : Int) (a1_1 : Int) (a1_2 : Int) (a1_3 : Int) (a1_4 : Int) : Option (Bool) := (spoondriftref01_Real.f k a0_0 a0_1 a0_2 a0_3 a0_4).bind fun bt440 => ((spoondriftref01_Less.f k a0_0 a0_1 a0_2 a0_3 a0_4 a1_0 a1_1 a1_2 a1_3 a1_4).bind fun bt442 => ((spoondriftref01_Phase.f k a0_0 a0_1 a0_2 a0_3 a0_4 a1_0 a1_1 a1_2 a1_3 a1_4).bind fun bt444 => ((ring_Real.f a0_0 a0_1 a0_2 a0_3 a0_4).bind fun bt446 => ((ring_Less.f a0_0 a0_1 a0_2 a0_3 a0_4 a1_0 a1_1 a1_2 a1_3 a1_4).bind fun bt448 => ((ring_Phase.f a0_0 a0_1 a0_2 a0_3 a0_4 a1_0 a1_1 a1_2 a1_3 a1_4).bind fun bt450 => (if bt446.2 = bt440.2 then (if bt448.2 = bt442.2 then (if bt450.2 = bt444.2 then (if (bt446.1 == bt440.1) = true then (if (bt448.1 == bt442.1) = true then (if bt450.1 = bt444.1 then ((spoondriftlaw01_awake.f).bind fun t452 => (some t452)) else (some false)) else (some false)) else (some false)) else (some false)) else (some false)) else (some false)))))))
theorem spoondriftlaw01_RingOrders.mono : ∀ a0 a1 a2 a3 a4 a5 a6 a7 a8 a9 k, LeO (spoondriftlaw01_RingOrders.f k a0 a1 a2 a3 a4 a5 a6 a7 a8 a9) (spoondriftlaw01_RingOrders.f (k + 1) a0 a1 a2 a3 a4 a5 a6 a7 a8 a9) := by
  intro a0 a1 a2 a3 a4 a5 a6 a7 a8 a9 k
  unfold spoondriftlaw01_RingOrders.f
  repeat' first
      | (with_reducible exact spoondriftref01_Less.mono _ _ _ _ _ _ _ _ _ _ _)
      | (with_reducible exact spoondriftref01_Phase.mono _ _ _ _ _ _ _ _ _ _ _)
      | (with_reducible exact spoondriftref01_Real.mono _ _ _ _ _ _)
      | (with_reducible exact LeO.refl _)
      | (with_reducible exact LeO.none _)
      | (with_reducible refine LeO.ite ?_ ?_)
      | (with_reducible refine LeO.bind ?_ (fun _ => ?_))
      | exact spoondriftref01_Less.mono _ _ _ _ _ _ _ _ _ _ _
      | exact spoondriftref01_Phase.mono _ _ _ _ _ _ _ _ _ _ _
      | exact spoondriftref01_Real.mono _ _ _ _ _ _
      | exact LeO.none _
      | refine LeO.ite ?_ ?_
      | refine LeO.bind ?_ (fun _ => ?_)
set_option maxHeartbeats 8000000 in
set_option maxRecDepth 100000 in
theorem spoondriftlaw01_RingOrders.calls (k : Nat) (a0_0 : Int) (a0_1 : Int) (a0_2 : Int) (a0_3 : Int) (a0_4 : Int) (a1_0 : Int) (a1_1 : Int) (a1_2 : Int) (a1_3 : Int) (a1_4 : Int) (w : World) (h : spoondriftlaw01_RingOrders.f k a0_0 a0_1 a0_2 a0_3 a0_4 a1_0 a1_1 a1_2 a1_3 a1_4 = some true) (ht : Go.Proofs.YtlglmooknlmomaaGreatDoor.Tabs w) :
    Calls Tryz.prog 5 #[.agg #[.int .i64 a0_0, .int .i64 a0_1, .int .i64 a0_2, .int .i64 a0_3, .int .i64 a0_4], .agg #[.int .i64 a1_0, .int .i64 a1_1, .int .i64 a1_2, .int .i64 a1_3, .int .i64 a1_4]] w fun e w' => e = .returned (.bool true) ∧ Below w.heap.size w w' := by
  have hu23 := Tryz.underlying23
  have HTABS := Aside0.mk ht
  clear ht
  have HB := Aside0.mk (Below.refl w.heap.size w)
  have H : ((spoondriftref01_Real.f k a0_0 a0_1 a0_2 a0_3 a0_4).bind fun bt440 => ((spoondriftref01_Less.f k a0_0 a0_1 a0_2 a0_3 a0_4 a1_0 a1_1 a1_2 a1_3 a1_4).bind fun bt442 => ((spoondriftref01_Phase.f k a0_0 a0_1 a0_2 a0_3 a0_4 a1_0 a1_1 a1_2 a1_3 a1_4).bind fun bt444 => ((ring_Real.f a0_0 a0_1 a0_2 a0_3 a0_4).bind fun bt446 => ((ring_Less.f a0_0 a0_1 a0_2 a0_3 a0_4 a1_0 a1_1 a1_2 a1_3 a1_4).bind fun bt448 => ((ring_Phase.f a0_0 a0_1 a0_2 a0_3 a0_4 a1_0 a1_1 a1_2 a1_3 a1_4).bind fun bt450 => (if bt446.2 = bt440.2 then (if bt448.2 = bt442.2 then (if bt450.2 = bt444.2 then (if (bt446.1 == bt440.1) = true then (if (bt448.1 == bt442.1) = true then (if bt450.1 = bt444.1 then ((spoondriftlaw01_awake.f).bind fun t452 => (some t452)) else (some false)) else (some false)) else (some false)) else (some false)) else (some false)) else (some false)))))))) = some true := h
  clear h
  replace H := Option.bind_eq_some_iff.mp H
  obtain ⟨⟨t440, t441⟩, A30, H⟩ := H
  replace H : ((spoondriftref01_Less.f k a0_0 a0_1 a0_2 a0_3 a0_4 a1_0 a1_1 a1_2 a1_3 a1_4).bind fun bt442 => ((spoondriftref01_Phase.f k a0_0 a0_1 a0_2 a0_3 a0_4 a1_0 a1_1 a1_2 a1_3 a1_4).bind fun bt444 => ((ring_Real.f a0_0 a0_1 a0_2 a0_3 a0_4).bind fun bt446 => ((ring_Less.f a0_0 a0_1 a0_2 a0_3 a0_4 a1_0 a1_1 a1_2 a1_3 a1_4).bind fun bt448 => ((ring_Phase.f a0_0 a0_1 a0_2 a0_3 a0_4 a1_0 a1_1 a1_2 a1_3 a1_4).bind fun bt450 => (if bt446.2 = t441 then (if bt448.2 = bt442.2 then (if bt450.2 = bt444.2 then (if (bt446.1 == t440) = true then (if (bt448.1 == bt442.1) = true then (if bt450.1 = bt444.1 then ((spoondriftlaw01_awake.f).bind fun t452 => (some t452)) else (some false)) else (some false)) else (some false)) else (some false)) else (some false)) else (some false))))))) = some true := H
  have A3 := Aside0.mk A30
  clear A30
  replace H := Option.bind_eq_some_iff.mp H
  obtain ⟨⟨t442, t443⟩, A40, H⟩ := H
  replace H : ((spoondriftref01_Phase.f k a0_0 a0_1 a0_2 a0_3 a0_4 a1_0 a1_1 a1_2 a1_3 a1_4).bind fun bt444 => ((ring_Real.f a0_0 a0_1 a0_2 a0_3 a0_4).bind fun bt446 => ((ring_Less.f a0_0 a0_1 a0_2 a0_3 a0_4 a1_0 a1_1 a1_2 a1_3 a1_4).bind fun bt448 => ((ring_Phase.f a0_0 a0_1 a0_2 a0_3 a0_4 a1_0 a1_1 a1_2 a1_3 a1_4).bind fun bt450 => (if bt446.2 = t441 then (if bt448.2 = t443 then (if bt450.2 = bt444.2 then (if (bt446.1 == t440) = true then (if (bt448.1 == t442) = true then (if bt450.1 = bt444.1 then ((spoondriftlaw01_awake.f).bind fun t452 => (some t452)) else (some false)) else (some false)) else (some false)) else (some false)) else (some false)) else (some false)))))) = some true := H
  have A4 := Aside0.mk A40
  clear A40
  replace H := Option.bind_eq_some_iff.mp H
  obtain ⟨⟨t444, t445⟩, A50, H⟩ := H
  replace H : ((ring_Real.f a0_0 a0_1 a0_2 a0_3 a0_4).bind fun bt446 => ((ring_Less.f a0_0 a0_1 a0_2 a0_3 a0_4 a1_0 a1_1 a1_2 a1_3 a1_4).bind fun bt448 => ((ring_Phase.f a0_0 a0_1 a0_2 a0_3 a0_4 a1_0 a1_1 a1_2 a1_3 a1_4).bind fun bt450 => (if bt446.2 = t441 then (if bt448.2 = t443 then (if bt450.2 = t445 then (if (bt446.1 == t440) = true then (if (bt448.1 == t442) = true then (if bt450.1 = t444 then ((spoondriftlaw01_awake.f).bind fun t452 => (some t452)) else (some false)) else (some false)) else (some false)) else (some false)) else (some false)) else (some false))))) = some true := H
  have A5 := Aside0.mk A50
  clear A50
  replace H := Option.bind_eq_some_iff.mp H
  obtain ⟨⟨t446, t447⟩, A60, H⟩ := H
  replace H : ((ring_Less.f a0_0 a0_1 a0_2 a0_3 a0_4 a1_0 a1_1 a1_2 a1_3 a1_4).bind fun bt448 => ((ring_Phase.f a0_0 a0_1 a0_2 a0_3 a0_4 a1_0 a1_1 a1_2 a1_3 a1_4).bind fun bt450 => (if t447 = t441 then (if bt448.2 = t443 then (if bt450.2 = t445 then (if (t446 == t440) = true then (if (bt448.1 == t442) = true then (if bt450.1 = t444 then ((spoondriftlaw01_awake.f).bind fun t452 => (some t452)) else (some false)) else (some false)) else (some false)) else (some false)) else (some false)) else (some false)))) = some true := H
  have A6 := Aside0.mk A60
  clear A60
  replace H := Option.bind_eq_some_iff.mp H
  obtain ⟨⟨t448, t449⟩, A70, H⟩ := H
  replace H : ((ring_Phase.f a0_0 a0_1 a0_2 a0_3 a0_4 a1_0 a1_1 a1_2 a1_3 a1_4).bind fun bt450 => (if t447 = t441 then (if t449 = t443 then (if bt450.2 = t445 then (if (t446 == t440) = true then (if (t448 == t442) = true then (if bt450.1 = t444 then ((spoondriftlaw01_awake.f).bind fun t452 => (some t452)) else (some false)) else (some false)) else (some false)) else (some false)) else (some false)) else (some false))) = some true := H
  have A7 := Aside0.mk A70
  clear A70
  replace H := Option.bind_eq_some_iff.mp H
  obtain ⟨⟨t450, t451⟩, A80, H⟩ := H
  replace H : (if t447 = t441 then (if t449 = t443 then (if t451 = t445 then (if (t446 == t440) = true then (if (t448 == t442) = true then (if t450 = t444 then ((spoondriftlaw01_awake.f).bind fun t452 => (some t452)) else (some false)) else (some false)) else (some false)) else (some false)) else (some false)) else (some false)) = some true := H
  have A8 := Aside0.mk A80
  clear A80
  by_cases c9 : t447 = t441
  · rw [if_pos c9] at H
    have c9b0 : (t447 == t441) = true := beq_iff_eq.mpr c9
    have c9b1 : (t447 != t441) = false := bne_eq_false_iff_eq.mpr c9
    clear c9
    by_cases c10 : t449 = t443
    · rw [if_pos c10] at H
      have c10b0 : (t449 == t443) = true := beq_iff_eq.mpr c10
      have c10b1 : (t449 != t443) = false := bne_eq_false_iff_eq.mpr c10
      clear c10
      by_cases c11 : t451 = t445
      · rw [if_pos c11] at H
        have c11b0 : (t451 == t445) = true := beq_iff_eq.mpr c11
        have c11b1 : (t451 != t445) = false := bne_eq_false_iff_eq.mpr c11
        clear c11
        by_cases c12 : (t446 == t440) = true
        · rw [if_pos c12] at H
          have c12b0 : (t446 == t440) = true := c12
          (try (have c12b1 : decide (t446 = t440) = true := by simpa using c12))
          (try (have c12b2 : (t446 == t440) = true := by simpa using c12))
          clear c12
          by_cases c13 : (t448 == t442) = true
          · rw [if_pos c13] at H
            have c13b0 : (t448 == t442) = true := c13
            (try (have c13b1 : decide (t448 = t442) = true := by simpa using c13))
            (try (have c13b2 : (t448 == t442) = true := by simpa using c13))
            clear c13
            by_cases c14 : t450 = t444
            · rw [if_pos c14] at H
              have c14b0 : (t450 == t444) = true := beq_iff_eq.mpr c14
              have c14b1 : (t450 != t444) = false := bne_eq_false_iff_eq.mpr c14
              clear c14
              replace H := Option.bind_eq_some_iff.mp H
              obtain ⟨t452, A150, H⟩ := H
              replace H : (some t452) = some true := H
              have A15 := Aside0.mk A150
              clear A150
              have HE_ := Aside0.mk (Option.some.inj H)
              go_enter Tryz.func5, Tryz.ntmps5
              go_wp2_with (first | ((with_reducible refine gate_dst (N := 2) rfl ?_); refine box_event ?hg (N := 2) ?hd (cs := #[.int .i64 a0_0, .int .i64 a0_1, .int .i64 a0_2, .int .i64 a0_3, .int .i64 a0_4]) (t := 23) ?hr ?_; (case hd => rfl); (case hg => rfl); (case hr => first | (go_simp; done) | (go_simp; rfl)); intro gb438 hg w16 hbox hb; have n0_ := Aside0.mk (below_step (by repeat (first | (with_reducible first | exact HB.out | apply below_alloc | apply pw_below_drewN | apply below_drew1) | exact HB.out)) hb); have n1_ := Aside0.mk (hbox); have n2_ := Aside0.mk ((by rw [hg]; exact (below_size (by repeat (first | (with_reducible first | exact HB.out | apply below_alloc | apply pw_below_drewN | apply below_drew1) | exact HB.out))) : w.heap.size ≤ gb438)); have n3_ := Aside0.mk ((by rw [hg]; exact (below_size (by repeat (first | (with_reducible first | exact HB.out | apply below_alloc | apply pw_below_drewN | apply below_drew1) | exact HB.out))) : w.heap.size ≤ gb438)); clear HB; have HB := n0_; have BK438 := n1_; have GW438 := n2_; have GE438 := n3_; clear n0_ n1_ n2_ n3_; clear hb hbox hg) | ((with_reducible refine gate_dst (N := 3) rfl ?_); refine box_event ?hg (N := 3) ?hd (cs := #[.int .i64 a1_0, .int .i64 a1_1, .int .i64 a1_2, .int .i64 a1_3, .int .i64 a1_4]) (t := 23) ?hr ?_; (case hd => rfl); (case hg => rfl); (case hr => first | (go_simp; done) | (go_simp; rfl)); intro gb439 hg w17 hbox hb; have n0_ := Aside0.mk (blk_below (g := gb438) (o := .cells #[.int .i64 a0_0, .int .i64 a0_1, .int .i64 a0_2, .int .i64 a0_3, .int .i64 a0_4] 23 (0, 0)) (by (with_reducible repeat (first | refine blk_drewN ?_ _ | refine blk_drew ?_ | refine blk_alloc ?_ _)); exact BK438.out) hb); have n1_ := Aside0.mk (below_step (by repeat (first | (with_reducible first | exact HB.out | apply below_alloc | apply pw_below_drewN | apply below_drew1 | refine below_set ?_ GE438.out) | exact HB.out)) hb); have n2_ := Aside0.mk (hbox); have n3_ := Aside0.mk ((by rw [hg]; exact (below_size (by repeat (first | (with_reducible first | exact HB.out | apply below_alloc | apply pw_below_drewN | apply below_drew1 | refine below_set ?_ GE438.out) | exact HB.out))) : w.heap.size ≤ gb439)); have n4_ := Aside0.mk ((by rw [hg]; exact (below_size (by repeat (first | (with_reducible first | exact HB.out | apply below_alloc | apply pw_below_drewN | apply below_drew1 | refine below_set ?_ GE438.out) | exact HB.out))) : w.heap.size ≤ gb439)); have n5_ := Aside0.mk ((by rw [hg]; exact Nat.ne_of_lt (blk_lt (g := gb438) (o := .cells #[.int .i64 a0_0, .int .i64 a0_1, .int .i64 a0_2, .int .i64 a0_3, .int .i64 a0_4] 23 (0, 0)) (by (with_reducible repeat (first | refine blk_drewN ?_ _ | refine blk_drew ?_ | refine blk_alloc ?_ _)); exact BK438.out)) : gb438 ≠ gb439)); have n6_ := Aside0.mk ((by rw [hg]; exact Nat.ne_of_gt (blk_lt (g := gb438) (o := .cells #[.int .i64 a0_0, .int .i64 a0_1, .int .i64 a0_2, .int .i64 a0_3, .int .i64 a0_4] 23 (0, 0)) (by (with_reducible repeat (first | refine blk_drewN ?_ _ | refine blk_drew ?_ | refine blk_alloc ?_ _)); exact BK438.out)) : gb439 ≠ gb438)); clear BK438; clear HB; have BK438 := n0_; have HB := n1_; have BK439 := n2_; have GW439 := n3_; have GE439 := n4_; have NB438_439 := n5_; have NB439_438 := n6_; clear n0_ n1_ n2_ n3_ n4_ n5_ n6_; clear hb hbox hg; have hnb18 := NB438_439.out; have hnc18 := NB439_438.out; have hcz19_0 : w17.cell? ⟨gb438, 0, none⟩ = some (.int .i64 a0_0) := (blk_cell BK438.out 0).trans rfl; have hcz19_1 : w17.cell? ⟨gb438, 1, none⟩ = some (.int .i64 a0_1) := (blk_cell BK438.out 1).trans rfl; have hcz19_2 : w17.cell? ⟨gb438, 2, none⟩ = some (.int .i64 a0_2) := (blk_cell BK438.out 2).trans rfl; have hcz19_3 : w17.cell? ⟨gb438, 3, none⟩ = some (.int .i64 a0_3) := (blk_cell BK438.out 3).trans rfl; have hcz19_4 : w17.cell? ⟨gb438, 4, none⟩ = some (.int .i64 a0_4) := (blk_cell BK438.out 4).trans rfl; have hfz19_0 := blk_frozen BK438.out 0; have hfz19_1 := blk_frozen BK438.out 1; have hfz19_2 := blk_frozen BK438.out 2; have hfz19_3 := blk_frozen BK438.out 3; have hfz19_4 := blk_frozen BK438.out 4) | ((with_reducible refine gate_callee (f := 23) rfl ?_); refine goesL_ (some 19) rfl rfl Tryz.func23 (by kernel_rfl) rfl #[.agg #[.int .i64 a0_0, .int .i64 a0_1, .int .i64 a0_2, .int .i64 a0_3, .int .i64 a0_4]] rfl (by (try simp only [List.map_toArray, List.map_cons, List.map_nil]); first | done | rfl | (simp only [List.length_drop, List.length_take]; rfl)) ?_; (with_reducible refine (spoondriftref01_Real.calls k a0_0 a0_1 a0_2 a0_3 a0_4 t440 t441 _ A3.out).mono ?_); rintro e w20 ⟨rfl, hb⟩; refine ⟨_, rfl, ?_⟩; have n0_ := Aside0.mk (blk_below (g := gb438) (o := .cells #[.int .i64 a0_0, .int .i64 a0_1, .int .i64 a0_2, .int .i64 a0_3, .int .i64 a0_4] 23 (0, 0)) (by (with_reducible repeat (first | refine blk_drewN ?_ _ | refine blk_drew ?_ | refine blk_alloc ?_ _)); exact BK438.out) hb); have n1_ := Aside0.mk (blk_below (g := gb439) (o := .cells #[.int .i64 a1_0, .int .i64 a1_1, .int .i64 a1_2, .int .i64 a1_3, .int .i64 a1_4] 23 (0, 0)) (by (with_reducible repeat (first | refine blk_drewN ?_ _ | refine blk_drew ?_ | refine blk_alloc ?_ _)); exact BK439.out) hb); have n2_ := Aside0.mk (below_step (by repeat (first | (with_reducible first | exact HB.out | apply below_alloc | apply pw_below_drewN | apply below_drew1 | refine below_set ?_ GE438.out | refine below_set ?_ GE439.out) | exact HB.out)) hb); clear BK438; clear BK439; clear HB; have BK438 := n0_; have BK439 := n1_; have HB := n2_; clear n0_ n1_ n2_; (try clear hb); (try clear hb2); (try clear hk); (try clear hi); have hcz21_0 : w20.cell? ⟨gb438, 0, none⟩ = some (.int .i64 a0_0) := (blk_cell BK438.out 0).trans rfl; have hcz21_1 : w20.cell? ⟨gb438, 1, none⟩ = some (.int .i64 a0_1) := (blk_cell BK438.out 1).trans rfl; have hcz21_2 : w20.cell? ⟨gb438, 2, none⟩ = some (.int .i64 a0_2) := (blk_cell BK438.out 2).trans rfl; have hcz21_3 : w20.cell? ⟨gb438, 3, none⟩ = some (.int .i64 a0_3) := (blk_cell BK438.out 3).trans rfl; have hcz21_4 : w20.cell? ⟨gb438, 4, none⟩ = some (.int .i64 a0_4) := (blk_cell BK438.out 4).trans rfl; have hfz21_0 := blk_frozen BK438.out 0; have hfz21_1 := blk_frozen BK438.out 1; have hfz21_2 := blk_frozen BK438.out 2; have hfz21_3 := blk_frozen BK438.out 3; have hfz21_4 := blk_frozen BK438.out 4; have hcz22_0 : w20.cell? ⟨gb439, 0, none⟩ = some (.int .i64 a1_0) := (blk_cell BK439.out 0).trans rfl; have hcz22_1 : w20.cell? ⟨gb439, 1, none⟩ = some (.int .i64 a1_1) := (blk_cell BK439.out 1).trans rfl; have hcz22_2 : w20.cell? ⟨gb439, 2, none⟩ = some (.int .i64 a1_2) := (blk_cell BK439.out 2).trans rfl; have hcz22_3 : w20.cell? ⟨gb439, 3, none⟩ = some (.int .i64 a1_3) := (blk_cell BK439.out 3).trans rfl; have hcz22_4 : w20.cell? ⟨gb439, 4, none⟩ = some (.int .i64 a1_4) := (blk_cell BK439.out 4).trans rfl; have hfz22_0 := blk_frozen BK439.out 0; have hfz22_1 := blk_frozen BK439.out 1; have hfz22_2 := blk_frozen BK439.out 2; have hfz22_3 := blk_frozen BK439.out 3; have hfz22_4 := blk_frozen BK439.out 4) | ((with_reducible refine gate_callee (f := 24) rfl ?_); refine goesL_ (some 25) rfl rfl Tryz.func24 (by kernel_rfl) rfl #[.agg #[.int .i64 a0_0, .int .i64 a0_1, .int .i64 a0_2, .int .i64 a0_3, .int .i64 a0_4], .agg #[.int .i64 a1_0, .int .i64 a1_1, .int .i64 a1_2, .int .i64 a1_3, .int .i64 a1_4]] rfl (by (try simp only [List.map_toArray, List.map_cons, List.map_nil]); first | done | rfl | (simp only [List.length_drop, List.length_take]; rfl)) ?_; (with_reducible refine (spoondriftref01_Less.calls k a0_0 a0_1 a0_2 a0_3 a0_4 a1_0 a1_1 a1_2 a1_3 a1_4 t442 t443 _ A4.out).mono ?_); rintro e w23 ⟨rfl, hb⟩; refine ⟨_, rfl, ?_⟩; have n0_ := Aside0.mk (blk_below (g := gb438) (o := .cells #[.int .i64 a0_0, .int .i64 a0_1, .int .i64 a0_2, .int .i64 a0_3, .int .i64 a0_4] 23 (0, 0)) (by (with_reducible repeat (first | refine blk_drewN ?_ _ | refine blk_drew ?_ | refine blk_alloc ?_ _)); exact BK438.out) hb); have n1_ := Aside0.mk (blk_below (g := gb439) (o := .cells #[.int .i64 a1_0, .int .i64 a1_1, .int .i64 a1_2, .int .i64 a1_3, .int .i64 a1_4] 23 (0, 0)) (by (with_reducible repeat (first | refine blk_drewN ?_ _ | refine blk_drew ?_ | refine blk_alloc ?_ _)); exact BK439.out) hb); have n2_ := Aside0.mk (below_step (by repeat (first | (with_reducible first | exact HB.out | apply below_alloc | apply pw_below_drewN | apply below_drew1 | refine below_set ?_ GE438.out | refine below_set ?_ GE439.out) | exact HB.out)) hb); clear BK438; clear BK439; clear HB; have BK438 := n0_; have BK439 := n1_; have HB := n2_; clear n0_ n1_ n2_; (try clear hb); (try clear hb2); (try clear hk); (try clear hi); have hcz24_0 : w23.cell? ⟨gb438, 0, none⟩ = some (.int .i64 a0_0) := (blk_cell BK438.out 0).trans rfl; have hcz24_1 : w23.cell? ⟨gb438, 1, none⟩ = some (.int .i64 a0_1) := (blk_cell BK438.out 1).trans rfl; have hcz24_2 : w23.cell? ⟨gb438, 2, none⟩ = some (.int .i64 a0_2) := (blk_cell BK438.out 2).trans rfl; have hcz24_3 : w23.cell? ⟨gb438, 3, none⟩ = some (.int .i64 a0_3) := (blk_cell BK438.out 3).trans rfl; have hcz24_4 : w23.cell? ⟨gb438, 4, none⟩ = some (.int .i64 a0_4) := (blk_cell BK438.out 4).trans rfl; have hfz24_0 := blk_frozen BK438.out 0; have hfz24_1 := blk_frozen BK438.out 1; have hfz24_2 := blk_frozen BK438.out 2; have hfz24_3 := blk_frozen BK438.out 3; have hfz24_4 := blk_frozen BK438.out 4; have hcz25_0 : w23.cell? ⟨gb439, 0, none⟩ = some (.int .i64 a1_0) := (blk_cell BK439.out 0).trans rfl; have hcz25_1 : w23.cell? ⟨gb439, 1, none⟩ = some (.int .i64 a1_1) := (blk_cell BK439.out 1).trans rfl; have hcz25_2 : w23.cell? ⟨gb439, 2, none⟩ = some (.int .i64 a1_2) := (blk_cell BK439.out 2).trans rfl; have hcz25_3 : w23.cell? ⟨gb439, 3, none⟩ = some (.int .i64 a1_3) := (blk_cell BK439.out 3).trans rfl; have hcz25_4 : w23.cell? ⟨gb439, 4, none⟩ = some (.int .i64 a1_4) := (blk_cell BK439.out 4).trans rfl; have hfz25_0 := blk_frozen BK439.out 0; have hfz25_1 := blk_frozen BK439.out 1; have hfz25_2 := blk_frozen BK439.out 2; have hfz25_3 := blk_frozen BK439.out 3; have hfz25_4 := blk_frozen BK439.out 4) | ((with_reducible refine gate_callee (f := 25) rfl ?_); refine goesL_ (some 31) rfl rfl Tryz.func25 (by kernel_rfl) rfl #[.agg #[.int .i64 a0_0, .int .i64 a0_1, .int .i64 a0_2, .int .i64 a0_3, .int .i64 a0_4], .agg #[.int .i64 a1_0, .int .i64 a1_1, .int .i64 a1_2, .int .i64 a1_3, .int .i64 a1_4]] rfl (by (try simp only [List.map_toArray, List.map_cons, List.map_nil]); first | done | rfl | (simp only [List.length_drop, List.length_take]; rfl)) ?_; (with_reducible refine (spoondriftref01_Phase.calls k a0_0 a0_1 a0_2 a0_3 a0_4 a1_0 a1_1 a1_2 a1_3 a1_4 t444 t445 _ A5.out).mono ?_); rintro e w26 ⟨rfl, hb⟩; refine ⟨_, rfl, ?_⟩; have n0_ := Aside0.mk (blk_below (g := gb438) (o := .cells #[.int .i64 a0_0, .int .i64 a0_1, .int .i64 a0_2, .int .i64 a0_3, .int .i64 a0_4] 23 (0, 0)) (by (with_reducible repeat (first | refine blk_drewN ?_ _ | refine blk_drew ?_ | refine blk_alloc ?_ _)); exact BK438.out) hb); have n1_ := Aside0.mk (blk_below (g := gb439) (o := .cells #[.int .i64 a1_0, .int .i64 a1_1, .int .i64 a1_2, .int .i64 a1_3, .int .i64 a1_4] 23 (0, 0)) (by (with_reducible repeat (first | refine blk_drewN ?_ _ | refine blk_drew ?_ | refine blk_alloc ?_ _)); exact BK439.out) hb); have n2_ := Aside0.mk (below_step (by repeat (first | (with_reducible first | exact HB.out | apply below_alloc | apply pw_below_drewN | apply below_drew1 | refine below_set ?_ GE438.out | refine below_set ?_ GE439.out) | exact HB.out)) hb); clear BK438; clear BK439; clear HB; have BK438 := n0_; have BK439 := n1_; have HB := n2_; clear n0_ n1_ n2_; (try clear hb); (try clear hb2); (try clear hk); (try clear hi); have hcz27_0 : w26.cell? ⟨gb438, 0, none⟩ = some (.int .i64 a0_0) := (blk_cell BK438.out 0).trans rfl; have hcz27_1 : w26.cell? ⟨gb438, 1, none⟩ = some (.int .i64 a0_1) := (blk_cell BK438.out 1).trans rfl; have hcz27_2 : w26.cell? ⟨gb438, 2, none⟩ = some (.int .i64 a0_2) := (blk_cell BK438.out 2).trans rfl; have hcz27_3 : w26.cell? ⟨gb438, 3, none⟩ = some (.int .i64 a0_3) := (blk_cell BK438.out 3).trans rfl; have hcz27_4 : w26.cell? ⟨gb438, 4, none⟩ = some (.int .i64 a0_4) := (blk_cell BK438.out 4).trans rfl; have hfz27_0 := blk_frozen BK438.out 0; have hfz27_1 := blk_frozen BK438.out 1; have hfz27_2 := blk_frozen BK438.out 2; have hfz27_3 := blk_frozen BK438.out 3; have hfz27_4 := blk_frozen BK438.out 4) | ((with_reducible refine gate_callee (f := 26) rfl ?_); refine goesL_ (some 36) rfl rfl Tryz.func26 (by kernel_rfl) rfl #[.agg #[.int .i64 a0_0, .int .i64 a0_1, .int .i64 a0_2, .int .i64 a0_3, .int .i64 a0_4]] rfl (by (try simp only [List.map_toArray, List.map_cons, List.map_nil]); first | done | rfl | (simp only [List.length_drop, List.length_take]; rfl)) ?_; (with_reducible refine (ring_Real.calls a0_0 a0_1 a0_2 a0_3 a0_4 t446 t447 _ A6.out).mono ?_); rintro e w28 ⟨rfl, hb⟩; refine ⟨_, rfl, ?_⟩; have n0_ := Aside0.mk (blk_below (g := gb438) (o := .cells #[.int .i64 a0_0, .int .i64 a0_1, .int .i64 a0_2, .int .i64 a0_3, .int .i64 a0_4] 23 (0, 0)) (by (with_reducible repeat (first | refine blk_drewN ?_ _ | refine blk_drew ?_ | refine blk_alloc ?_ _)); exact BK438.out) hb); have n1_ := Aside0.mk (blk_below (g := gb439) (o := .cells #[.int .i64 a1_0, .int .i64 a1_1, .int .i64 a1_2, .int .i64 a1_3, .int .i64 a1_4] 23 (0, 0)) (by (with_reducible repeat (first | refine blk_drewN ?_ _ | refine blk_drew ?_ | refine blk_alloc ?_ _)); exact BK439.out) hb); have n2_ := Aside0.mk (below_step (by repeat (first | (with_reducible first | exact HB.out | apply below_alloc | apply pw_below_drewN | apply below_drew1 | refine below_set ?_ GE438.out | refine below_set ?_ GE439.out) | exact HB.out)) hb); clear BK438; clear BK439; clear HB; have BK438 := n0_; have BK439 := n1_; have HB := n2_; clear n0_ n1_ n2_; (try clear hb); (try clear hb2); (try clear hk); (try clear hi); have hcz29_0 : w28.cell? ⟨gb438, 0, none⟩ = some (.int .i64 a0_0) := (blk_cell BK438.out 0).trans rfl; have hcz29_1 : w28.cell? ⟨gb438, 1, none⟩ = some (.int .i64 a0_1) := (blk_cell BK438.out 1).trans rfl; have hcz29_2 : w28.cell? ⟨gb438, 2, none⟩ = some (.int .i64 a0_2) := (blk_cell BK438.out 2).trans rfl; have hcz29_3 : w28.cell? ⟨gb438, 3, none⟩ = some (.int .i64 a0_3) := (blk_cell BK438.out 3).trans rfl; have hcz29_4 : w28.cell? ⟨gb438, 4, none⟩ = some (.int .i64 a0_4) := (blk_cell BK438.out 4).trans rfl; have hfz29_0 := blk_frozen BK438.out 0; have hfz29_1 := blk_frozen BK438.out 1; have hfz29_2 := blk_frozen BK438.out 2; have hfz29_3 := blk_frozen BK438.out 3; have hfz29_4 := blk_frozen BK438.out 4; have hcz30_0 : w28.cell? ⟨gb439, 0, none⟩ = some (.int .i64 a1_0) := (blk_cell BK439.out 0).trans rfl; have hcz30_1 : w28.cell? ⟨gb439, 1, none⟩ = some (.int .i64 a1_1) := (blk_cell BK439.out 1).trans rfl; have hcz30_2 : w28.cell? ⟨gb439, 2, none⟩ = some (.int .i64 a1_2) := (blk_cell BK439.out 2).trans rfl; have hcz30_3 : w28.cell? ⟨gb439, 3, none⟩ = some (.int .i64 a1_3) := (blk_cell BK439.out 3).trans rfl; have hcz30_4 : w28.cell? ⟨gb439, 4, none⟩ = some (.int .i64 a1_4) := (blk_cell BK439.out 4).trans rfl; have hfz30_0 := blk_frozen BK439.out 0; have hfz30_1 := blk_frozen BK439.out 1; have hfz30_2 := blk_frozen BK439.out 2; have hfz30_3 := blk_frozen BK439.out 3; have hfz30_4 := blk_frozen BK439.out 4) | ((with_reducible refine gate_callee (f := 27) rfl ?_); refine goesL_ (some 42) rfl rfl Tryz.func27 (by kernel_rfl) rfl #[.agg #[.int .i64 a0_0, .int .i64 a0_1, .int .i64 a0_2, .int .i64 a0_3, .int .i64 a0_4], .agg #[.int .i64 a1_0, .int .i64 a1_1, .int .i64 a1_2, .int .i64 a1_3, .int .i64 a1_4]] rfl (by (try simp only [List.map_toArray, List.map_cons, List.map_nil]); first | done | rfl | (simp only [List.length_drop, List.length_take]; rfl)) ?_; (with_reducible refine (ring_Less.calls a0_0 a0_1 a0_2 a0_3 a0_4 a1_0 a1_1 a1_2 a1_3 a1_4 t448 t449 _ A7.out).mono ?_); rintro e w31 ⟨rfl, hb⟩; refine ⟨_, rfl, ?_⟩; have n0_ := Aside0.mk (blk_below (g := gb438) (o := .cells #[.int .i64 a0_0, .int .i64 a0_1, .int .i64 a0_2, .int .i64 a0_3, .int .i64 a0_4] 23 (0, 0)) (by (with_reducible repeat (first | refine blk_drewN ?_ _ | refine blk_drew ?_ | refine blk_alloc ?_ _)); exact BK438.out) hb); have n1_ := Aside0.mk (blk_below (g := gb439) (o := .cells #[.int .i64 a1_0, .int .i64 a1_1, .int .i64 a1_2, .int .i64 a1_3, .int .i64 a1_4] 23 (0, 0)) (by (with_reducible repeat (first | refine blk_drewN ?_ _ | refine blk_drew ?_ | refine blk_alloc ?_ _)); exact BK439.out) hb); have n2_ := Aside0.mk (below_step (by repeat (first | (with_reducible first | exact HB.out | apply below_alloc | apply pw_below_drewN | apply below_drew1 | refine below_set ?_ GE438.out | refine below_set ?_ GE439.out) | exact HB.out)) hb); clear BK438; clear BK439; clear HB; have BK438 := n0_; have BK439 := n1_; have HB := n2_; clear n0_ n1_ n2_; (try clear hb); (try clear hb2); (try clear hk); (try clear hi); have hcz32_0 : w31.cell? ⟨gb438, 0, none⟩ = some (.int .i64 a0_0) := (blk_cell BK438.out 0).trans rfl; have hcz32_1 : w31.cell? ⟨gb438, 1, none⟩ = some (.int .i64 a0_1) := (blk_cell BK438.out 1).trans rfl; have hcz32_2 : w31.cell? ⟨gb438, 2, none⟩ = some (.int .i64 a0_2) := (blk_cell BK438.out 2).trans rfl; have hcz32_3 : w31.cell? ⟨gb438, 3, none⟩ = some (.int .i64 a0_3) := (blk_cell BK438.out 3).trans rfl; have hcz32_4 : w31.cell? ⟨gb438, 4, none⟩ = some (.int .i64 a0_4) := (blk_cell BK438.out 4).trans rfl; have hfz32_0 := blk_frozen BK438.out 0; have hfz32_1 := blk_frozen BK438.out 1; have hfz32_2 := blk_frozen BK438.out 2; have hfz32_3 := blk_frozen BK438.out 3; have hfz32_4 := blk_frozen BK438.out 4; have hcz33_0 : w31.cell? ⟨gb439, 0, none⟩ = some (.int .i64 a1_0) := (blk_cell BK439.out 0).trans rfl; have hcz33_1 : w31.cell? ⟨gb439, 1, none⟩ = some (.int .i64 a1_1) := (blk_cell BK439.out 1).trans rfl; have hcz33_2 : w31.cell? ⟨gb439, 2, none⟩ = some (.int .i64 a1_2) := (blk_cell BK439.out 2).trans rfl; have hcz33_3 : w31.cell? ⟨gb439, 3, none⟩ = some (.int .i64 a1_3) := (blk_cell BK439.out 3).trans rfl; have hcz33_4 : w31.cell? ⟨gb439, 4, none⟩ = some (.int .i64 a1_4) := (blk_cell BK439.out 4).trans rfl; have hfz33_0 := blk_frozen BK439.out 0; have hfz33_1 := blk_frozen BK439.out 1; have hfz33_2 := blk_frozen BK439.out 2; have hfz33_3 := blk_frozen BK439.out 3; have hfz33_4 := blk_frozen BK439.out 4) | ((with_reducible refine gate_callee (f := 28) rfl ?_); refine goesL_ (some 48) rfl rfl Tryz.func28 (by kernel_rfl) rfl #[.agg #[.int .i64 a0_0, .int .i64 a0_1, .int .i64 a0_2, .int .i64 a0_3, .int .i64 a0_4], .agg #[.int .i64 a1_0, .int .i64 a1_1, .int .i64 a1_2, .int .i64 a1_3, .int .i64 a1_4]] rfl (by (try simp only [List.map_toArray, List.map_cons, List.map_nil]); first | done | rfl | (simp only [List.length_drop, List.length_take]; rfl)) ?_; (with_reducible refine (ring_Phase.calls a0_0 a0_1 a0_2 a0_3 a0_4 a1_0 a1_1 a1_2 a1_3 a1_4 t450 t451 _ A8.out).mono ?_); rintro e w34 ⟨rfl, hb⟩; refine ⟨_, rfl, ?_⟩; have n0_ := Aside0.mk (blk_below (g := gb438) (o := .cells #[.int .i64 a0_0, .int .i64 a0_1, .int .i64 a0_2, .int .i64 a0_3, .int .i64 a0_4] 23 (0, 0)) (by (with_reducible repeat (first | refine blk_drewN ?_ _ | refine blk_drew ?_ | refine blk_alloc ?_ _)); exact BK438.out) hb); have n1_ := Aside0.mk (blk_below (g := gb439) (o := .cells #[.int .i64 a1_0, .int .i64 a1_1, .int .i64 a1_2, .int .i64 a1_3, .int .i64 a1_4] 23 (0, 0)) (by (with_reducible repeat (first | refine blk_drewN ?_ _ | refine blk_drew ?_ | refine blk_alloc ?_ _)); exact BK439.out) hb); have n2_ := Aside0.mk (below_step (by repeat (first | (with_reducible first | exact HB.out | apply below_alloc | apply pw_below_drewN | apply below_drew1 | refine below_set ?_ GE438.out | refine below_set ?_ GE439.out) | exact HB.out)) hb); clear BK438; clear BK439; clear HB; have BK438 := n0_; have BK439 := n1_; have HB := n2_; clear n0_ n1_ n2_; (try clear hb); (try clear hb2); (try clear hk); (try clear hi)) | (go_at_call 16; (with_reducible refine (spoondriftlaw01_awake.calls  t452 _ A15.out (HTABS.out.below (by repeat (first | (with_reducible first | exact HB.out | apply below_alloc | apply pw_below_drewN | apply below_drew1 | refine below_set ?_ GE438.out | refine below_set ?_ GE439.out) | exact HB.out)))).mono ?_); rintro e w35 ⟨rfl, hb⟩; have n0_ := Aside0.mk (blk_below (g := gb438) (o := .cells #[.int .i64 a0_0, .int .i64 a0_1, .int .i64 a0_2, .int .i64 a0_3, .int .i64 a0_4] 23 (0, 0)) (by (with_reducible repeat (first | refine blk_drewN ?_ _ | refine blk_drew ?_ | refine blk_alloc ?_ _)); exact BK438.out) hb); have n1_ := Aside0.mk (blk_below (g := gb439) (o := .cells #[.int .i64 a1_0, .int .i64 a1_1, .int .i64 a1_2, .int .i64 a1_3, .int .i64 a1_4] 23 (0, 0)) (by (with_reducible repeat (first | refine blk_drewN ?_ _ | refine blk_drew ?_ | refine blk_alloc ?_ _)); exact BK439.out) hb); have n2_ := Aside0.mk (below_step (by repeat (first | (with_reducible first | exact HB.out | apply below_alloc | apply pw_below_drewN | apply below_drew1 | refine below_set ?_ GE438.out | refine below_set ?_ GE439.out) | exact HB.out)) hb); clear BK438; clear BK439; clear HB; have BK438 := n0_; have BK439 := n1_; have HB := n2_; clear n0_ n1_ n2_; (try clear hb); (try clear hb2); (try clear hk); (try clear hi)))
              go_ret
              exact ⟨by first | rfl | (rw [HE_.out]; done) | exact HE_.out | (simp only [HE_.out]; done) | (simp only [HE_.out]; rfl) | (simp [HE_.out, errW_none, errW_some]; done) | (simp [errW_none, errW_some] <;> rfl) | (simp [*, errW_none, errW_some] <;> rfl), by repeat (first | (with_reducible first | exact HB.out | apply below_alloc | apply pw_below_drewN | apply below_drew1 | refine below_set ?_ GE438.out | refine below_set ?_ GE439.out) | exact HB.out)⟩
            · rw [if_neg c14] at H
              have c14b0 : (t450 == t444) = false := beq_eq_false_iff_ne.mpr c14
              have c14b1 : (t450 != t444) = true := bne_iff_ne.mpr c14
              exact absurd H (by simp)
          · rw [if_neg c13] at H
            have c13b0 : (t448 == t442) = false := by simpa using c13
            (try (have c13b1 : decide (t448 = t442) = false := by simpa using c13))
            (try (have c13b2 : (t448 == t442) = false := by simpa using c13))
            (try (have c13b3 : ¬ (t448 = t442) := by simpa using c13))
            clear c13
            exact absurd H (by simp)
        · rw [if_neg c12] at H
          have c12b0 : (t446 == t440) = false := by simpa using c12
          (try (have c12b1 : decide (t446 = t440) = false := by simpa using c12))
          (try (have c12b2 : (t446 == t440) = false := by simpa using c12))
          (try (have c12b3 : ¬ (t446 = t440) := by simpa using c12))
          clear c12
          exact absurd H (by simp)
      · rw [if_neg c11] at H
        have c11b0 : (t451 == t445) = false := beq_eq_false_iff_ne.mpr c11
        have c11b1 : (t451 != t445) = true := bne_iff_ne.mpr c11
        exact absurd H (by simp)
    · rw [if_neg c10] at H
      have c10b0 : (t449 == t443) = false := beq_eq_false_iff_ne.mpr c10
      have c10b1 : (t449 != t443) = true := bne_iff_ne.mpr c10
      exact absurd H (by simp)
  · rw [if_neg c9] at H
    have c9b0 : (t447 == t441) = false := beq_eq_false_iff_ne.mpr c9
    have c9b1 : (t447 != t441) = true := bne_iff_ne.mpr c9
    exact absurd H (by simp)
end Go.Proofs.YtlglmooknlmomaaGreatDoorPR
end
section
set_option linter.all false
namespace Go.Proofs.YtlglmooknlmomaaGreatDoor
open Go.RowKit Go.Proofs.YtlglmooknlmomaaGreatDoorPR Go.Proofs.YtlglmooknlmomaaGreatDoor.Inj
theorem eqNm_iff (x y : Nm) : eqNm x y = true ↔ x.p = y.p ∧ x.k = y.k := by
  rw [Pt.ext_iff']
  simp [eqNm, and_assoc]
theorem eqNm_lf (k l : Nat) (p q : Pt) : eqNm (nmOf (Pt.red k p)) (nmOf (Pt.red l q)) = decide (Pt.red k p = Pt.red l q) := by
  rw [Bool.eq_iff_iff, eqNm_iff, decide_eq_true_eq]
  constructor
  · rintro ⟨h1, h2⟩
    exact Prod.ext h1 (by have : ((Pt.red k p).2 : Int) = (Pt.red l q).2 := h2; omega)
  · intro h
    rw [h]
    exact ⟨rfl, rfl⟩
theorem realB_eq (x : Nm) : eqNm (lf x) (lf ⟨x.p.conj, x.k⟩) = realB x.p := by
  unfold lf
  rw [eqNm_lf, Bool.eq_iff_iff, decide_eq_true_eq, Pt.red_eq]
  have h1 : Pt.tw x.k.toNat x.p = Pt.tw x.k.toNat x.p.conj ↔ x.p = x.p.conj := ⟨Pt.tw_inj, fun h => by rw [← h]⟩
  rw [h1, Pt.ext_iff']
  unfold realB Pt.conj
  simp
theorem Real_body (n : Nat) (hn : 61 ≤ n) {x : Nm} (h : x.chk = 0) : ((spoondriftref01_conjugate.f x.p.a x.p.b x.p.c x.p.d x.k).bind fun t => spoondriftref01_Equal.f n x.p.a x.p.b x.p.c x.p.d x.k t.1 t.2.1 t.2.2.1 t.2.2.2.1 t.2.2.2.2) = some (realB x.p) := by
  rw [conjugate_eq _ (Pt.le_mono (Nm.chk_ok h).1 (by omega))]
  simp only [Option.bind_some]
  rw [← realB_eq]
  exact Equal_eq n hn h (y := ⟨x.p.conj, x.k⟩) (chk_conj h)
theorem Real_eq (n : Nat) (hn : 61 ≤ n) (x : Nm) : spoondriftref01_Real.f n x.p.a x.p.b x.p.c x.p.d x.k = some (sReal x) := by
  unfold spoondriftref01_Real.f sReal
  rw [Check_eq n (by omega)]
  simp only [Option.bind_some]
  show (if x.chk = 0 then _ else _) = _
  by_cases h : x.chk = 0
  · rw [if_pos h, if_pos h]
    have := Real_body n hn h
    rw [conjugate_eq _ (Pt.le_mono (Nm.chk_ok h).1 (by omega))] at this ⊢
    simp only [Option.bind_some] at this ⊢
    rw [this]
    rfl
  · rw [if_neg h, if_neg h]
    rfl
theorem Negative_eq (n : Nat) (hn : 3 ≤ n) (a b c d k : Int) (ha : -1073741824 ≤ a ∧ a ≤ 1073741824) (hb : -1073741824 ≤ b ∧ b ≤ 1073741824) : spoondriftref01_Negative.f n a b c d k = some (negB a b) := by
  obtain ⟨n, rfl⟩ : ∃ m, n = m + 1 + 1 + 1 := ⟨n - 3, by omega⟩
  have q1 := Pt.mul_bd ha ha
  have q2 := Pt.mul_bd hb hb
  have e1 := wr (x := a * a) (by omega)
  have e2 := wr (x := 2 * b) (by omega)
  have e3 := wr (x := 2 * b * b) (by rw [Int.mul_assoc]; omega)
  have hne : ¬ (b = 0) → a * a ≠ 2 * (b * b) := fun h h2 => by
    have h3 := sqrt2i a b h2
    subst h3
    have : b * b = 0 := by omega
    exact h (by rcases Int.mul_eq_zero.1 this with h | h <;> exact h)
  unfold spoondriftref01_Negative.f
  simp only [spoondriftref01_Negative.j0, spoondriftref01_Negative.j1, e1, e2, e3]
  rw [Int.mul_assoc]
  unfold negB
  rw [Int.mul_assoc]
  by_cases h1 : a ≥ 0
  · rw [if_pos h1]
    by_cases h2 : b ≥ 0
    · rw [if_pos (by simpa using h2)]
      simp only [Option.some.injEq]
      symm
      rw [decide_eq_false_iff_not]
      omega
    · have hn := hne (by omega)
      rw [if_neg (by simpa using h2)]
      by_cases h3 : a ≤ 0
      · rw [if_pos h3, if_pos (by simp; omega)]
        simp only [Option.some.injEq]
        symm
        rw [decide_eq_true_eq]
        omega
      · rw [if_neg h3, if_neg (by simp), if_neg (by omega)]
        simp only [Option.some.injEq, decide_eq_decide]
        omega
  · rw [if_neg h1, if_neg (by simp), if_pos (by omega)]
    by_cases h2 : b ≤ 0
    · rw [if_pos (by simpa using h2)]
      simp only [Option.some.injEq]
      symm
      rw [decide_eq_true_eq]
      omega
    · have hn := hne (by omega)
      rw [if_neg (by simpa using h2), if_pos (by omega)]
      simp only [Option.some.injEq, decide_eq_decide]
      omega
theorem Less_eq (n : Nat) (hn : 301 ≤ n) (x z : Nm) : spoondriftref01_Less.f n x.p.a x.p.b x.p.c x.p.d x.k z.p.a z.p.b z.p.c z.p.d z.k = some (sLess x z) := by
  unfold spoondriftref01_Less.f
  have h := Checks_eq n [x, z] (by simp; omega) (by simp)
  show ((spoondriftref01_Checks.f n ([x, z].map s23)).bind _) = _
  rw [h]
  simp only [Option.bind_some]
  unfold sLess
  by_cases h0 : chks [x, z] = 0
  · obtain ⟨hx, hz⟩ := chks_two h0
    rw [if_pos h0, if_pos h0]
    have r1 := Real_body n (by omega) hx
    have r2 := Real_body n (by omega) hz
    rw [conjugate_eq _ (Pt.le_mono (Nm.chk_ok hx).1 (by omega))] at r1 ⊢
    rw [conjugate_eq _ (Pt.le_mono (Nm.chk_ok hz).1 (by omega))] at r2 ⊢
    simp only [Option.bind_some] at r1 r2 ⊢
    rw [r1, r2]
    simp only [Option.bind_some]
    obtain ⟨n, rfl⟩ : ∃ m, n = m + 1 := ⟨n - 1, by omega⟩
    simp only [spoondriftref01_Less.j0]
    cases hr : realB x.p
    · rfl
    · rw [if_pos rfl]
      cases hr2 : realB z.p
      · rfl
      · rw [if_neg (by simp), if_pos (by simp), Sub_eq n (by omega)]
        simp only [Option.bind_some]
        show (if (sSub x z).2 = 0 then _ else _) = some (if (sSub x z).2 = 0 then _ else _)
        by_cases hs : (sSub x z).2 = 0
        · rw [if_pos hs, if_pos hs]
          have hc := sSub_ok (x := x) (z := z) (y := (sSub x z).1) (Prod.ext rfl hs)
          obtain ⟨⟨c1, c2⟩, ⟨c3, c4⟩, _⟩ := (Nm.chk_ok hc).1
          have := Negative_eq n (by omega) (sSub x z).1.p.a (sSub x z).1.p.b (sSub x z).1.p.c (sSub x z).1.p.d (sSub x z).1.k ⟨c1, c2⟩ ⟨c3, c4⟩
          show ((spoondriftref01_Negative.f n (sSub x z).1.p.a (sSub x z).1.p.b (sSub x z).1.p.c (sSub x z).1.p.d (sSub x z).1.k).bind _) = _
          rw [this]
          show some (_, (sSub x z).2) = _
          rw [hs]
        · rw [if_neg hs, if_neg hs]
          rfl
  · rw [if_neg h0, if_neg h0]
theorem om_succ : ∀ c : Fin 7, omP (c.val + 1) = ⟨-(omP c.val).d, (omP c.val).a, (omP c.val).b, (omP c.val).c⟩ := by decide
theorem om_wi : ∀ i : Fin 8, wiB (omP i.val).a (omP i.val).b (omP i.val).c (omP i.val).d 1073741824 = true := by decide
theorem om_one (i : Fin 8) : (omP i.val).le 1073741824 := (wiB_iff _ _).1 (om_wi i)
theorem Omega_l0_eq (i : Fin 8) : ∀ (j n c : Nat), c + j = i.val → j + 1 ≤ n → spoondriftref01_Omega.l0 n (i.val : Int) c (omP c).a (omP c).b (omP c).c (omP c).d 0 = some ((omP i.val).a, (omP i.val).b, (omP i.val).c, (omP i.val).d, 0) := by
  have hi := i.isLt
  have e0 : Int.tmod (wrap64 ((Int.tmod (i.val : Int) 8) + 8)) 8 = (i.val : Int) := by
    rw [Int.tmod_eq_emod_of_nonneg (a := (i.val : Int)) (by omega), wr (by omega), Int.tmod_eq_emod_of_nonneg (by omega)]
    omega
  intro j
  induction j with
  | zero =>
    intro n c hc hn
    obtain ⟨n, rfl⟩ : ∃ m, n = m + 1 := ⟨n - 1, by omega⟩
    simp only [spoondriftref01_Omega.l0]
    rw [e0, if_neg (by omega), show c = i.val by omega]
  | succ j ih =>
    intro n c hc hn
    obtain ⟨n, rfl⟩ : ∃ m, n = m + 1 := ⟨n - 1, by omega⟩
    simp only [spoondriftref01_Omega.l0]
    have ho := om_succ ⟨c, by omega⟩
    obtain ⟨_, _, _, ⟨h1, h2⟩⟩ := om_one ⟨c, by omega⟩
    dsimp only at ho h1 h2
    rw [e0, if_pos (by omega), wr (x := (c : Int) + 1) (by omega), wr (x := -(omP c).d) (by omega)]
    have := ih n (c + 1) (by omega) (by omega)
    rw [ho] at this
    exact this
theorem Omega_eq (n : Nat) (hn : 12 ≤ n) (i : Fin 8) : spoondriftref01_Omega.f n (i.val : Int) = some ((omP i.val).a, (omP i.val).b, (omP i.val).c, (omP i.val).d, 0) :=
  Omega_l0_eq i i.val n 0 (by omega) (by omega)
theorem om_le (i : Fin 8) {B : Int} {p : Pt} (h : p.le B) : (p.mul (omP i.val)).le B := by
  obtain ⟨h1, h2, h3, h4⟩ := h
  match i with
  | 0 => show (p.mul ⟨1, 0, 0, 0⟩).le B; simp [Pt.le, Pt.mul]; omega
  | 1 => show (p.mul ⟨0, 1, 0, 0⟩).le B; simp [Pt.le, Pt.mul]; omega
  | 2 => show (p.mul ⟨0, 0, 1, 0⟩).le B; simp [Pt.le, Pt.mul]; omega
  | 3 => show (p.mul ⟨0, 0, 0, 1⟩).le B; simp [Pt.le, Pt.mul]; omega
  | 4 => show (p.mul ⟨-1, 0, 0, 0⟩).le B; simp [Pt.le, Pt.mul]; omega
  | 5 => show (p.mul ⟨0, -1, 0, 0⟩).le B; simp [Pt.le, Pt.mul]; omega
  | 6 => show (p.mul ⟨0, 0, -1, 0⟩).le B; simp [Pt.le, Pt.mul]; omega
  | 7 => show (p.mul ⟨0, 0, 0, -1⟩).le B; simp [Pt.le, Pt.mul]; omega
theorem om_chk (i : Fin 8) : Nm.chk ⟨omP i.val, 0⟩ = 0 := Nm.ok_chk (x := ⟨omP i.val, 0⟩) (om_one i) (Int.le_refl 0) (show (0 : Int) ≤ 60 by decide)
def hitB (x z : Nm) (i : Fin 8) : Bool := eqNm (lf x) (nmOf (Pt.red z.k.toNat (z.p.mul (omP i.val))))
theorem eqNm_symm (a b : Nm) : eqNm a b = eqNm b a := by
  rw [Bool.eq_iff_iff, eqNm_iff, eqNm_iff]
  exact ⟨fun ⟨h1, h2⟩ => ⟨h1.symm, h2.symm⟩, fun ⟨h1, h2⟩ => ⟨h1.symm, h2.symm⟩⟩
theorem hit_eq {x z : Nm} (hz : z.chk = 0) (i : Fin 8) : phHit (lf x) (lf z) i = hitB x z i := by
  unfold phHit hitB
  rw [eqNm_symm]
  congr 1
  obtain ⟨b1, b2, b3⟩ := Nm.chk_ok hz
  have hc : chks [⟨omP i.val, 0⟩, lf z] = 0 := by
    show (if Nm.chk ⟨omP i.val, 0⟩ = 0 then (if (lf z).chk = 0 then 0 else _) else _) = _
    rw [if_pos (om_chk i), if_pos (chk_lf hz)]
  unfold sMul
  rw [if_pos hc]
  obtain ⟨j, e1, e2⟩ := Pt.red_ex z.k.toNat z.p
  have hk := Pt.red_kle z.k.toNat z.p
  have hq := Pt.red_le z.k.toNat z.p b1
  show (okN (Pt.red ((0 : Int).toNat + ((Pt.red z.k.toNat z.p).2 : Int).toNat) ((omP i.val).mul (Pt.red z.k.toNat z.p).1))).1 = _
  rw [Int.toNat_natCast, show (0 : Int).toNat = 0 from rfl, Nat.zero_add, Pt.mul_comm]
  have e3 : Pt.red z.k.toNat (z.p.mul (omP i.val)) = Pt.red (Pt.red z.k.toNat z.p).2 ((Pt.red z.k.toNat z.p).1.mul (omP i.val)) := by
    generalize Pt.red z.k.toNat z.p = r at e1 e2
    rw [e1, Pt.tw_mul, e2, Nat.add_comm, Pt.red_tw]
  rw [e3]
  have h1 := Pt.red_le (Pt.red z.k.toNat z.p).2 _ (om_le i hq)
  have h2 := Pt.red_kle (Pt.red z.k.toNat z.p).2 ((Pt.red z.k.toNat z.p).1.mul (omP i.val))
  rw [okN_of h1 (by omega)]
def phOut : Option (Fin 8) → Int × Int
  | some i => ((i.val : Int), 0)
  | none => (0, 6)
theorem Phase_l0_eq {x z : Nm} (hx : x.chk = 0) (hz : z.chk = 0) : ∀ (j n i : Nat), i + j = 8 → 80 + j ≤ n →
    spoondriftref01_Phase.l0 n i x.p.a x.p.b x.p.c x.p.d x.k z.p.a z.p.b z.p.c z.p.d z.k = some (phOut (((List.finRange 8).drop i).find? (hitB x z))) := by
  obtain ⟨a1, a2, a3⟩ := Nm.chk_ok hx
  obtain ⟨b1, b2, b3⟩ := Nm.chk_ok hz
  intro j
  induction j with
  | zero =>
    intro n i hi hn
    obtain ⟨n, rfl⟩ : ∃ m, n = m + 1 := ⟨n - 1, by omega⟩
    simp only [spoondriftref01_Phase.l0]
    rw [if_neg (by omega), List.drop_of_length_le (by simp; omega)]
    rfl
  | succ j ih =>
    intro n i hi hn
    obtain ⟨n, rfl⟩ : ∃ m, n = m + 1 := ⟨n - 1, by omega⟩
    have hlt : i < 8 := by omega
    have hc : (List.finRange 8).drop i = ⟨i, hlt⟩ :: (List.finRange 8).drop (i + 1) := by
      rw [List.drop_eq_getElem_cons (by simpa using hlt)]
      simp
    simp only [spoondriftref01_Phase.l0]
    rw [if_pos (by omega), hc, List.find?_cons]
    have ho := Omega_eq n (by omega) ⟨i, hlt⟩
    rw [show ((i : Nat) : Int) = (((⟨i, hlt⟩ : Fin 8).val : Nat) : Int) from rfl, ho]
    simp only [Option.bind_some]
    rw [product_eq z.k 0 b1 (om_one ⟨i, hlt⟩) ⟨b2, b3⟩ ⟨by omega, by omega⟩]
    simp only [Option.bind_some]
    have e1 : spoondriftref01_Equal.f n x.p.a x.p.b x.p.c x.p.d x.k (z.p.mul (omP i)).a (z.p.mul (omP i)).b (z.p.mul (omP i)).c (z.p.mul (omP i)).d (z.k + 0) = some (hitB x z ⟨i, hlt⟩) := by
      have hy : Nm.chk ⟨z.p.mul (omP i), z.k⟩ = 0 := Nm.ok_chk (x := ⟨z.p.mul (omP i), z.k⟩) (om_le ⟨i, hlt⟩ b1) b2 b3
      have := Equal_eq n (by omega) hx (y := ⟨z.p.mul (omP i), z.k⟩) hy
      rw [Int.add_zero]
      exact this
    show ((spoondriftref01_Equal.f n x.p.a x.p.b x.p.c x.p.d x.k (z.p.mul (omP i)).a (z.p.mul (omP i)).b (z.p.mul (omP i)).c (z.p.mul (omP i)).d (z.k + 0)).bind _) = _
    rw [e1]
    simp only [Option.bind_some]
    cases hitB x z ⟨i, hlt⟩
    · rw [if_neg (by simp), wr (by omega)]
      have := ih n (i + 1) (by omega) (by omega)
      rw [show ((i + 1 : Nat) : Int) = (i : Int) + 1 by omega] at this
      exact this
    · rw [if_pos rfl]
      rfl
theorem Phase_eq (n : Nat) (hn : 100 ≤ n) (x z : Nm) : spoondriftref01_Phase.f n x.p.a x.p.b x.p.c x.p.d x.k z.p.a z.p.b z.p.c z.p.d z.k = some (sPhase x z) := by
  unfold spoondriftref01_Phase.f
  have h := Checks_eq n [x, z] (by simp; omega) (by simp)
  show ((spoondriftref01_Checks.f n ([x, z].map s23)).bind _) = _
  rw [h]
  simp only [Option.bind_some]
  unfold sPhase
  by_cases h0 : chks [x, z] = 0
  · obtain ⟨hx, hz⟩ := chks_two h0
    rw [if_pos h0, if_pos h0]
    have := Phase_l0_eq hx hz 8 n 0 (by omega) (by omega)
    rw [show ((0 : Nat) : Int) = 0 from rfl] at this
    rw [this, List.drop_zero]
    have e : phHit (lf x) (lf z) = hitB x z := funext (hit_eq hz)
    show _ = some (phR (lf x) (lf z))
    unfold phR
    rw [e, show upto8 8 = List.finRange 8 from rfl]
    cases (List.finRange 8).find? (hitB x z) <;> rfl
  · rw [if_neg h0, if_neg h0]
theorem RingOrders_pure (x z : Nm) : spoondriftlaw01_RingOrders.f 400 x.p.a x.p.b x.p.c x.p.d x.k z.p.a z.p.b z.p.c z.p.d z.k = some true := by
  unfold spoondriftlaw01_RingOrders.f
  rw [Real_eq 400 (by omega), Less_eq 400 (by omega), Phase_eq 400 (by omega)]
  have h1 : ring_Real.f x.p.a x.p.b x.p.c x.p.d x.k = some (sReal x) := rfl
  have h2 : ring_Less.f x.p.a x.p.b x.p.c x.p.d x.k z.p.a z.p.b z.p.c z.p.d z.k = some (sLess x z) := rfl
  have h3 : ring_Phase.f x.p.a x.p.b x.p.c x.p.d x.k z.p.a z.p.b z.p.c z.p.d z.k = some (sPhase x z) := rfl
  rw [h1, h2, h3]
  simp [spoondriftlaw01_awake.f]
end Go.Proofs.YtlglmooknlmomaaGreatDoor
end
