import Derived.Test.YtepdnjjfhbjcjaaGreatDoorCPowers0
import Derived.Test.YtepdnjjfhbjcjaaGreatDoorCPowers2
import Derived.Test.YtepdnjjfhbjcjaaGreatDoorCPowers3
import Derived.Test.YtepdnjjfhbjcjaaGreatDoorCPowers4
import Derived.Test.YtepdnjjfhbjcjaaGreatDoorCPowers5
set_option linter.all false
section
namespace Go.Proofs.YtepdnjjfhbjcjaaGreatDoorPR
open Go.RowKit Go.Proofs.YtepdnjjfhbjcjaaGreatDoor.Inj Go.Proofs.YtepdnjjfhbjcjaaGreatDoorW.PrintWords Go.Proofs.YtepdnjjfhbjcjaaGreatDoorW.PrintLast Go.Proofs.YtepdnjjfhbjcjaaGreatDoorW.PrintMore
attribute [local go_sem] max2_int min2_int max_two min_two max_three min_three max_four min_four
set_option linter.unusedVariables false
set_option linter.unusedSimpArgs false
def spoondriftref01_Omega.l0 : Nat → Int → Int → Int → Int → Int → Int → Int → Option (Int × Int × Int × Int × Int)
  | 0, _, _, _, _, _, _, _ => none
  | k + 1, x0, x4, x421000, x421001, x421002, x421003, x421004 => if x4 < (Int.tmod (wrap64 ((Int.tmod x0 8) + 8)) 8) then (spoondriftref01_Omega.l0 k x0 (wrap64 (x4 + 1)) (wrap64 (-x421003)) x421000 x421001 x421002 0) else (some (x421000, x421001, x421002, x421003, x421004))
def spoondriftref01_Omega.f (k : Nat) (a0 : Int) : Option (Int × Int × Int × Int × Int) := spoondriftref01_Omega.l0 k a0 0 1 0 0 0 0
theorem spoondriftref01_Omega.mono_l : ∀ k, (∀ y0 y1 y2 y3 y4 y5 y6, LeO (spoondriftref01_Omega.l0 k y0 y1 y2 y3 y4 y5 y6) (spoondriftref01_Omega.l0 (k + 1) y0 y1 y2 y3 y4 y5 y6))
  | 0 => fun _ _ _ _ _ _ _ r h => by simp [spoondriftref01_Omega.l0] at h
  | k + 1 => by
    have ih0 := spoondriftref01_Omega.mono_l k
    · intro y0 y1 y2 y3 y4 y5 y6
      unfold spoondriftref01_Omega.l0
      repeat' first
      | (with_reducible exact ih0 _ _ _ _ _ _ _)
      | (with_reducible exact LeO.refl _)
      | (with_reducible exact LeO.none _)
      | (with_reducible refine LeO.ite ?_ ?_)
      | (with_reducible refine LeO.bind ?_ (fun _ => ?_))
      | exact ih0 _ _ _ _ _ _ _
      | exact LeO.none _
      | refine LeO.ite ?_ ?_
      | refine LeO.bind ?_ (fun _ => ?_)
theorem spoondriftref01_Omega.mono : ∀ a0 k, LeO (spoondriftref01_Omega.f k a0) (spoondriftref01_Omega.f (k + 1) a0) := by
  intro a0 k
  have ih0 := spoondriftref01_Omega.mono_l k
  unfold spoondriftref01_Omega.f
  repeat' first
      | (with_reducible exact ih0 _ _ _ _ _ _ _)
      | (with_reducible exact LeO.refl _)
      | (with_reducible exact LeO.none _)
      | (with_reducible refine LeO.ite ?_ ?_)
      | (with_reducible refine LeO.bind ?_ (fun _ => ?_))
      | exact ih0 _ _ _ _ _ _ _
      | exact LeO.none _
      | refine LeO.ite ?_ ?_
      | refine LeO.bind ?_ (fun _ => ?_)
set_option maxHeartbeats 8000000 in
set_option maxRecDepth 100000 in
theorem spoondriftref01_Omega.calls (k : Nat) (a0 : Int) (r1 : Int) (r2 : Int) (r3 : Int) (r4 : Int) (r5 : Int) (w : World) (h : spoondriftref01_Omega.f k a0 = some (r1, r2, r3, r4, r5)) :
    Calls Tryz.prog 13 #[.int .i64 a0] w fun e w' => e = .returned (.agg #[.int .i64 r1, .int .i64 r2, .int .i64 r3, .int .i64 r4, .int .i64 r5]) ∧ Below w.heap.size w w' := by
  have hu23 := Tryz.underlying23
  have HB := Aside0.mk (Below.refl w.heap.size w)
  have H : (spoondriftref01_Omega.l0 k a0 0 1 0 0 0 0) = some (r1, r2, r3, r4, r5) := h
  clear h
  have H' := Aside0.mk H
  clear H
  go_enter Tryz.func13, Tryz.ntmps13
  go_wp2_with (first | ((with_reducible refine gate_dst (N := 2) rfl ?_); refine box_event ?hg (N := 2) ?hd (cs := #[.int .i64 0, .int .i64 0, .int .i64 0, .int .i64 0, .int .i64 0]) (t := 23) ?hr ?_; (case hd => rfl); (case hg => rfl); (case hr => first | (go_simp; done) | (go_simp; rfl)); intro gb419 hg w2 hbox hb; have n0_ := Aside0.mk (below_step (by repeat (first | (with_reducible first | exact HB.out | apply below_alloc | apply pw_below_drewN | apply below_drew1) | exact HB.out)) hb); have n1_ := Aside0.mk (hbox); have n2_ := Aside0.mk ((by rw [hg]; exact (below_size (by repeat (first | (with_reducible first | exact HB.out | apply below_alloc | apply pw_below_drewN | apply below_drew1) | exact HB.out))) : w.heap.size ≤ gb419)); have n3_ := Aside0.mk ((by rw [hg]; exact (below_size (by repeat (first | (with_reducible first | exact HB.out | apply below_alloc | apply pw_below_drewN | apply below_drew1) | exact HB.out))) : w.heap.size ≤ gb419)); clear HB; have HB := n0_; have BK419 := n1_; have GW419 := n2_; have GE419 := n3_; clear n0_ n1_ n2_ n3_; clear hb hbox hg) | ((with_reducible refine gate_dst (N := 3) rfl ?_); refine box_event ?hg (N := 3) ?hd (cs := #[.int .i64 0, .int .i64 0, .int .i64 0, .int .i64 0, .int .i64 0]) (t := 23) ?hr ?_; (case hd => rfl); (case hg => rfl); (case hr => first | (go_simp; done) | (go_simp; rfl)); intro gb420 hg w3 hbox hb; have n0_ := Aside0.mk (blk_below (g := gb419) (o := .cells #[.int .i64 0, .int .i64 0, .int .i64 0, .int .i64 0, .int .i64 0] 23 (0, 0)) (by (with_reducible repeat (first | refine blk_drewN ?_ _ | refine blk_drew ?_ | refine blk_alloc ?_ _)); exact BK419.out) hb); have n1_ := Aside0.mk (below_step (by repeat (first | (with_reducible first | exact HB.out | apply below_alloc | apply pw_below_drewN | apply below_drew1 | refine below_set ?_ GE419.out) | exact HB.out)) hb); have n2_ := Aside0.mk (hbox); have n3_ := Aside0.mk ((by rw [hg]; exact (below_size (by repeat (first | (with_reducible first | exact HB.out | apply below_alloc | apply pw_below_drewN | apply below_drew1 | refine below_set ?_ GE419.out) | exact HB.out))) : w.heap.size ≤ gb420)); have n4_ := Aside0.mk ((by rw [hg]; exact (below_size (by repeat (first | (with_reducible first | exact HB.out | apply below_alloc | apply pw_below_drewN | apply below_drew1 | refine below_set ?_ GE419.out) | exact HB.out))) : w.heap.size ≤ gb420)); have n5_ := Aside0.mk ((by rw [hg]; exact Nat.ne_of_lt (blk_lt (g := gb419) (o := .cells #[.int .i64 0, .int .i64 0, .int .i64 0, .int .i64 0, .int .i64 0] 23 (0, 0)) (by (with_reducible repeat (first | refine blk_drewN ?_ _ | refine blk_drew ?_ | refine blk_alloc ?_ _)); exact BK419.out)) : gb419 ≠ gb420)); have n6_ := Aside0.mk ((by rw [hg]; exact Nat.ne_of_gt (blk_lt (g := gb419) (o := .cells #[.int .i64 0, .int .i64 0, .int .i64 0, .int .i64 0, .int .i64 0] 23 (0, 0)) (by (with_reducible repeat (first | refine blk_drewN ?_ _ | refine blk_drew ?_ | refine blk_alloc ?_ _)); exact BK419.out)) : gb420 ≠ gb419)); clear BK419; clear HB; have BK419 := n0_; have HB := n1_; have BK420 := n2_; have GW420 := n3_; have GE420 := n4_; have NB419_420 := n5_; have NB420_419 := n6_; clear n0_ n1_ n2_ n3_ n4_ n5_ n6_; clear hb hbox hg; have hnb4 := NB420_419.out; have hnc4 := NB419_420.out; have hcz5_0 : w3.cell? ⟨gb420, 0, none⟩ = some (.int .i64 0) := (blk_cell BK420.out 0).trans rfl; have hcz5_1 : w3.cell? ⟨gb420, 1, none⟩ = some (.int .i64 0) := (blk_cell BK420.out 1).trans rfl; have hcz5_2 : w3.cell? ⟨gb420, 2, none⟩ = some (.int .i64 0) := (blk_cell BK420.out 2).trans rfl; have hcz5_3 : w3.cell? ⟨gb420, 3, none⟩ = some (.int .i64 0) := (blk_cell BK420.out 3).trans rfl; have hcz5_4 : w3.cell? ⟨gb420, 4, none⟩ = some (.int .i64 0) := (blk_cell BK420.out 4).trans rfl; have hfz5_0 := blk_frozen BK420.out 0; have hfz5_1 := blk_frozen BK420.out 1; have hfz5_2 := blk_frozen BK420.out 2; have hfz5_3 := blk_frozen BK420.out 3; have hfz5_4 := blk_frozen BK420.out 4))
  (try simp only [Act.put, List.setIfInBounds_toArray, List.set_cons_zero, List.set_cons_succ])
  go_loopg [4] k (fun kq v4 w' => ∃ (x4_1 : Int) (x421000_1 : Int) (x421001_1 : Int) (x421002_1 : Int) (x421003_1 : Int) (x421004_1 : Int), v4 = .int .i64 x4_1 ∧ Aside0 (spoondriftref01_Omega.l0 kq a0 x4_1 x421000_1 x421001_1 x421002_1 x421003_1 x421004_1 = some (r1, r2, r3, r4, r5)) ∧ Aside0 (kq ≤ k) ∧ Aside0 (w'.heap[gb419]? = some (.cells #[.int .i64 0, .int .i64 0, .int .i64 0, .int .i64 0, .int .i64 0] 23 (0, 0))) ∧ Aside0 (w'.heap[gb420]? = some (.cells #[.int .i64 x421000_1, .int .i64 x421001_1, .int .i64 x421002_1, .int .i64 x421003_1, .int .i64 x421004_1] 23 (0, 0))) ∧ Aside0 (Below w.heap.size w w'))
  case atStart => exact ⟨(0), (1), (0), (0), (0), (0), (by first | rfl | (simp; done) | (simp [*]; done)), H', ⟨Nat.le_refl _⟩, ⟨by (with_reducible repeat (first | refine blk_drewN ?_ _ | refine blk_drew ?_ | refine blk_alloc ?_ _)); refine blk_far ?_ NB419_420.out _; (with_reducible repeat (first | refine blk_drewN ?_ _ | refine blk_drew ?_ | refine blk_alloc ?_ _)); refine blk_far ?_ NB419_420.out _; (with_reducible repeat (first | refine blk_drewN ?_ _ | refine blk_drew ?_ | refine blk_alloc ?_ _)); refine blk_far ?_ NB419_420.out _; (with_reducible repeat (first | refine blk_drewN ?_ _ | refine blk_drew ?_ | refine blk_alloc ?_ _)); refine blk_far ?_ NB419_420.out _; (with_reducible repeat (first | refine blk_drewN ?_ _ | refine blk_drew ?_ | refine blk_alloc ?_ _)); refine blk_far ?_ NB419_420.out _; (with_reducible repeat (first | refine blk_drewN ?_ _ | refine blk_drew ?_ | refine blk_alloc ?_ _)); exact BK419.out⟩, ⟨by (with_reducible repeat (first | refine blk_drewN ?_ _ | refine blk_drew ?_ | refine blk_alloc ?_ _)); refine blk_put (cs := #[.int .i64 1, .int .i64 0, .int .i64 0, .int .i64 0, .int .i64 0]) ?_ 4 _ rfl; (with_reducible repeat (first | refine blk_drewN ?_ _ | refine blk_drew ?_ | refine blk_alloc ?_ _)); refine blk_put (cs := #[.int .i64 1, .int .i64 0, .int .i64 0, .int .i64 0, .int .i64 0]) ?_ 3 _ rfl; (with_reducible repeat (first | refine blk_drewN ?_ _ | refine blk_drew ?_ | refine blk_alloc ?_ _)); refine blk_put (cs := #[.int .i64 1, .int .i64 0, .int .i64 0, .int .i64 0, .int .i64 0]) ?_ 2 _ rfl; (with_reducible repeat (first | refine blk_drewN ?_ _ | refine blk_drew ?_ | refine blk_alloc ?_ _)); refine blk_put (cs := #[.int .i64 1, .int .i64 0, .int .i64 0, .int .i64 0, .int .i64 0]) ?_ 1 _ rfl; (with_reducible repeat (first | refine blk_drewN ?_ _ | refine blk_drew ?_ | refine blk_alloc ?_ _)); refine blk_put (cs := #[.int .i64 0, .int .i64 0, .int .i64 0, .int .i64 0, .int .i64 0]) ?_ 0 _ rfl; (with_reducible repeat (first | refine blk_drewN ?_ _ | refine blk_drew ?_ | refine blk_alloc ?_ _)); exact BK420.out⟩, ⟨by repeat (first | (with_reducible first | exact HB.out | apply below_alloc | apply pw_below_drewN | apply below_drew1 | refine below_set ?_ GE419.out | refine below_set ?_ GE420.out) | exact HB.out)⟩⟩
  case round =>
    clear H'
    try clear c1
    try clear p2
    try clear c4
    try clear hcz5_0
    try clear hcz5_1
    try clear hcz5_2
    try clear hcz5_3
    try clear hcz5_4
    try clear hfz5_0
    try clear hfz5_1
    try clear hfz5_2
    try clear hfz5_3
    try clear hfz5_4
    obtain ⟨x4_1, x421000_1, x421001_1, x421002_1, x421003_1, x421004_1, rfl, HA, HK1, BK419, BK420, HB⟩ := hrel
    cases gk with
    | zero => exact absurd HA.out (by simp [spoondriftref01_Omega.l0])
    | succ k1 =>
      have H := HA.out
      clear HA
      simp only [spoondriftref01_Omega.l0] at H
      by_cases c6 : x4_1 < (Int.tmod (wrap64 ((Int.tmod a0 8) + 8)) 8)
      · rw [if_pos c6] at H
        have c6b0 : decide (x4_1 < (Int.tmod (wrap64 ((Int.tmod a0 8) + 8)) 8)) = true := decide_eq_true c6
        clear c6
        have H' := Aside0.mk H
        clear H
        have hnb7 := NB420_419.out
        have hnc7 := NB419_420.out
        have hcz8_0 : wr.cell? ⟨gb420, 0, none⟩ = some (.int .i64 x421000_1) := (blk_cell BK420.out 0).trans rfl
        have hcz8_1 : wr.cell? ⟨gb420, 1, none⟩ = some (.int .i64 x421001_1) := (blk_cell BK420.out 1).trans rfl
        have hcz8_2 : wr.cell? ⟨gb420, 2, none⟩ = some (.int .i64 x421002_1) := (blk_cell BK420.out 2).trans rfl
        have hcz8_3 : wr.cell? ⟨gb420, 3, none⟩ = some (.int .i64 x421003_1) := (blk_cell BK420.out 3).trans rfl
        have hcz8_4 : wr.cell? ⟨gb420, 4, none⟩ = some (.int .i64 x421004_1) := (blk_cell BK420.out 4).trans rfl
        have hfz8_0 := blk_frozen BK420.out 0
        have hfz8_1 := blk_frozen BK420.out 1
        have hfz8_2 := blk_frozen BK420.out 2
        have hfz8_3 := blk_frozen BK420.out 3
        have hfz8_4 := blk_frozen BK420.out 4
        go_wp2
        go_roundg k1
        case measure => have := HK1.out; omega
        case rel => exact ⟨(wrap64 (x4_1 + 1)), (wrap64 (-x421003_1)), (x421000_1), (x421001_1), (x421002_1), (0), (by first | rfl | (simp; done) | (simp [*]; done)), H', ⟨by have := HK1.out; omega⟩, ⟨by (with_reducible repeat (first | refine blk_drewN ?_ _ | refine blk_drew ?_ | refine blk_alloc ?_ _)); refine blk_far ?_ NB419_420.out _; (with_reducible repeat (first | refine blk_drewN ?_ _ | refine blk_drew ?_ | refine blk_alloc ?_ _)); refine blk_far ?_ NB419_420.out _; (with_reducible repeat (first | refine blk_drewN ?_ _ | refine blk_drew ?_ | refine blk_alloc ?_ _)); refine blk_far ?_ NB419_420.out _; (with_reducible repeat (first | refine blk_drewN ?_ _ | refine blk_drew ?_ | refine blk_alloc ?_ _)); refine blk_far ?_ NB419_420.out _; (with_reducible repeat (first | refine blk_drewN ?_ _ | refine blk_drew ?_ | refine blk_alloc ?_ _)); refine blk_far ?_ NB419_420.out _; (with_reducible repeat (first | refine blk_drewN ?_ _ | refine blk_drew ?_ | refine blk_alloc ?_ _)); exact BK419.out⟩, ⟨by (with_reducible repeat (first | refine blk_drewN ?_ _ | refine blk_drew ?_ | refine blk_alloc ?_ _)); refine blk_put (cs := #[.int .i64 (wrap64 (-x421003_1)), .int .i64 x421000_1, .int .i64 x421001_1, .int .i64 x421002_1, .int .i64 x421004_1]) ?_ 4 _ rfl; (with_reducible repeat (first | refine blk_drewN ?_ _ | refine blk_drew ?_ | refine blk_alloc ?_ _)); refine blk_put (cs := #[.int .i64 (wrap64 (-x421003_1)), .int .i64 x421000_1, .int .i64 x421001_1, .int .i64 x421003_1, .int .i64 x421004_1]) ?_ 3 _ rfl; (with_reducible repeat (first | refine blk_drewN ?_ _ | refine blk_drew ?_ | refine blk_alloc ?_ _)); refine blk_put (cs := #[.int .i64 (wrap64 (-x421003_1)), .int .i64 x421000_1, .int .i64 x421002_1, .int .i64 x421003_1, .int .i64 x421004_1]) ?_ 2 _ rfl; (with_reducible repeat (first | refine blk_drewN ?_ _ | refine blk_drew ?_ | refine blk_alloc ?_ _)); refine blk_put (cs := #[.int .i64 (wrap64 (-x421003_1)), .int .i64 x421001_1, .int .i64 x421002_1, .int .i64 x421003_1, .int .i64 x421004_1]) ?_ 1 _ rfl; (with_reducible repeat (first | refine blk_drewN ?_ _ | refine blk_drew ?_ | refine blk_alloc ?_ _)); refine blk_put (cs := #[.int .i64 x421000_1, .int .i64 x421001_1, .int .i64 x421002_1, .int .i64 x421003_1, .int .i64 x421004_1]) ?_ 0 _ rfl; (with_reducible repeat (first | refine blk_drewN ?_ _ | refine blk_drew ?_ | refine blk_alloc ?_ _)); exact BK420.out⟩, ⟨by repeat (first | (with_reducible first | exact HB.out | apply below_alloc | apply pw_below_drewN | apply below_drew1 | refine below_set ?_ GE419.out | refine below_set ?_ GE420.out) | exact HB.out)⟩⟩
      · rw [if_neg c6] at H
        have c6b0 : decide (x4_1 < (Int.tmod (wrap64 ((Int.tmod a0 8) + 8)) 8)) = false := decide_eq_false c6
        clear c6
        simp only [Option.some.injEq, Prod.mk.injEq] at H
        obtain ⟨rfl, rfl, rfl, rfl, rfl⟩ := H
        have hnb9 := NB420_419.out
        have hnc9 := NB419_420.out
        have hcz10_0 : wr.cell? ⟨gb420, 0, none⟩ = some (.int .i64 x421000_1) := (blk_cell BK420.out 0).trans rfl
        have hcz10_1 : wr.cell? ⟨gb420, 1, none⟩ = some (.int .i64 x421001_1) := (blk_cell BK420.out 1).trans rfl
        have hcz10_2 : wr.cell? ⟨gb420, 2, none⟩ = some (.int .i64 x421002_1) := (blk_cell BK420.out 2).trans rfl
        have hcz10_3 : wr.cell? ⟨gb420, 3, none⟩ = some (.int .i64 x421003_1) := (blk_cell BK420.out 3).trans rfl
        have hcz10_4 : wr.cell? ⟨gb420, 4, none⟩ = some (.int .i64 x421004_1) := (blk_cell BK420.out 4).trans rfl
        have hfz10_0 := blk_frozen BK420.out 0
        have hfz10_1 := blk_frozen BK420.out 1
        have hfz10_2 := blk_frozen BK420.out 2
        have hfz10_3 := blk_frozen BK420.out 3
        have hfz10_4 := blk_frozen BK420.out 4
        have hcz11_0 : wr.cell? ⟨gb419, 0, none⟩ = some (.int .i64 0) := (blk_cell BK419.out 0).trans rfl
        have hcz11_1 : wr.cell? ⟨gb419, 1, none⟩ = some (.int .i64 0) := (blk_cell BK419.out 1).trans rfl
        have hcz11_2 : wr.cell? ⟨gb419, 2, none⟩ = some (.int .i64 0) := (blk_cell BK419.out 2).trans rfl
        have hcz11_3 : wr.cell? ⟨gb419, 3, none⟩ = some (.int .i64 0) := (blk_cell BK419.out 3).trans rfl
        have hcz11_4 : wr.cell? ⟨gb419, 4, none⟩ = some (.int .i64 0) := (blk_cell BK419.out 4).trans rfl
        have hfz11_0 := blk_frozen BK419.out 0
        have hfz11_1 := blk_frozen BK419.out 1
        have hfz11_2 := blk_frozen BK419.out 2
        have hfz11_3 := blk_frozen BK419.out 3
        have hfz11_4 := blk_frozen BK419.out 4
        go_wp2
        refine bodyPost_ret (results_cell_row rfl _ _ gb419 23 #[.int .i64 x421000_1, .int .i64 x421001_1, .int .i64 x421002_1, .int .i64 x421003_1, .int .i64 x421004_1] (0, 0) _ rfl (by (with_reducible repeat (first | refine blk_drewN ?_ _ | refine blk_drew ?_ | refine blk_alloc ?_ _)); refine blk_put (cs := #[.int .i64 x421000_1, .int .i64 x421001_1, .int .i64 x421002_1, .int .i64 x421003_1, .int .i64 0]) ?_ 4 _ rfl; (with_reducible repeat (first | refine blk_drewN ?_ _ | refine blk_drew ?_ | refine blk_alloc ?_ _)); refine blk_put (cs := #[.int .i64 x421000_1, .int .i64 x421001_1, .int .i64 x421002_1, .int .i64 0, .int .i64 0]) ?_ 3 _ rfl; (with_reducible repeat (first | refine blk_drewN ?_ _ | refine blk_drew ?_ | refine blk_alloc ?_ _)); refine blk_put (cs := #[.int .i64 x421000_1, .int .i64 x421001_1, .int .i64 0, .int .i64 0, .int .i64 0]) ?_ 2 _ rfl; (with_reducible repeat (first | refine blk_drewN ?_ _ | refine blk_drew ?_ | refine blk_alloc ?_ _)); refine blk_put (cs := #[.int .i64 x421000_1, .int .i64 0, .int .i64 0, .int .i64 0, .int .i64 0]) ?_ 1 _ rfl; (with_reducible repeat (first | refine blk_drewN ?_ _ | refine blk_drew ?_ | refine blk_alloc ?_ _)); refine blk_put (cs := #[.int .i64 0, .int .i64 0, .int .i64 0, .int .i64 0, .int .i64 0]) ?_ 0 _ rfl; (with_reducible repeat (first | refine blk_drewN ?_ _ | refine blk_drew ?_ | refine blk_alloc ?_ _)); exact BK419.out) Tryz.underlying23 rfl (by kernel_rfl)) rfl ?_
        exact ⟨by first | rfl | (simp [errW_none, errW_some] <;> rfl) | (simp [*, errW_none, errW_some] <;> rfl), by repeat (first | (with_reducible first | exact HB.out | apply below_alloc | apply pw_below_drewN | apply below_drew1 | refine below_set ?_ GE419.out | refine below_set ?_ GE420.out) | exact HB.out)⟩
end Go.Proofs.YtepdnjjfhbjcjaaGreatDoorPR
end
section
namespace Go.Proofs.YtepdnjjfhbjcjaaGreatDoorPR
open Go.RowKit Go.Proofs.YtepdnjjfhbjcjaaGreatDoor.Inj Go.Proofs.YtepdnjjfhbjcjaaGreatDoorW.PrintWords Go.Proofs.YtepdnjjfhbjcjaaGreatDoorW.PrintLast Go.Proofs.YtepdnjjfhbjcjaaGreatDoorW.PrintMore
attribute [local go_sem] max2_int min2_int max_two min_two max_three min_three max_four min_four
set_option linter.unusedVariables false
set_option linter.unusedSimpArgs false
def spoondriftref01_Root.f (k : Nat) (a0 : Int) : Option (Int × Int × Int × Int × Int × Int) := if a0 < 0 then (some (0, 0, 0, 0, 0, 3)) else (if a0 > 60 then (some (0, 0, 0, 0, 0, 3)) else ((spoondriftref01_Form.f k 1 0 0 0 a0).bind fun bt454 => (some (bt454.1, bt454.2.1, bt454.2.2.1, bt454.2.2.2.1, bt454.2.2.2.2, 0))))
theorem spoondriftref01_Root.mono : ∀ a0 k, LeO (spoondriftref01_Root.f k a0) (spoondriftref01_Root.f (k + 1) a0) := by
  intro a0 k
  unfold spoondriftref01_Root.f
  repeat' first
      | (with_reducible exact spoondriftref01_Form.mono _ _ _ _ _ _)
      | (with_reducible exact LeO.refl _)
      | (with_reducible exact LeO.none _)
      | (with_reducible refine LeO.ite ?_ ?_)
      | (with_reducible refine LeO.bind ?_ (fun _ => ?_))
      | exact spoondriftref01_Form.mono _ _ _ _ _ _
      | exact LeO.none _
      | refine LeO.ite ?_ ?_
      | refine LeO.bind ?_ (fun _ => ?_)
set_option maxHeartbeats 8000000 in
set_option maxRecDepth 100000 in
theorem spoondriftref01_Root.calls (k : Nat) (a0 : Int) (r1 : Int) (r2 : Int) (r3 : Int) (r4 : Int) (r5 : Int) (r6 : Int) (w : World) (h : spoondriftref01_Root.f k a0 = some (r1, r2, r3, r4, r5, r6)) :
    Calls Tryz.prog 6 #[.int .i64 a0] w fun e w' => e = .returned (.tuple #[.agg #[.int .i64 r1, .int .i64 r2, .int .i64 r3, .int .i64 r4, .int .i64 r5], .int .i64 r6]) ∧ Below w.heap.size w w' := by
  have hu23 := Tryz.underlying23
  have HB := Aside0.mk (Below.refl w.heap.size w)
  have H : (if a0 < 0 then (some (0, 0, 0, 0, 0, 3)) else (if a0 > 60 then (some (0, 0, 0, 0, 0, 3)) else ((spoondriftref01_Form.f k 1 0 0 0 a0).bind fun bt454 => (some (bt454.1, bt454.2.1, bt454.2.2.1, bt454.2.2.2.1, bt454.2.2.2.2, 0))))) = some (r1, r2, r3, r4, r5, r6) := h
  clear h
  by_cases c2 : a0 < 0
  · rw [if_pos c2] at H
    have c2b0 : decide (a0 < 0) = true := decide_eq_true c2
    clear c2
    simp only [Option.some.injEq, Prod.mk.injEq] at H
    obtain ⟨rfl, rfl, rfl, rfl, rfl, rfl⟩ := H
    go_enter Tryz.func6, Tryz.ntmps6
    go_wp2_with (first | ((with_reducible refine gate_dst (N := 2) rfl ?_); refine box_event ?hg (N := 2) ?hd (cs := #[.int .i64 0, .int .i64 0, .int .i64 0, .int .i64 0, .int .i64 0]) (t := 23) ?hr ?_; (case hd => rfl); (case hg => rfl); (case hr => first | (go_simp; done) | (go_simp; rfl)); intro gb453 hg w3 hbox hb; have n0_ := Aside0.mk (below_step (by repeat (first | (with_reducible first | exact HB.out | apply below_alloc | apply pw_below_drewN | apply below_drew1) | exact HB.out)) hb); have n1_ := Aside0.mk (hbox); have n2_ := Aside0.mk ((by rw [hg]; exact (below_size (by repeat (first | (with_reducible first | exact HB.out | apply below_alloc | apply pw_below_drewN | apply below_drew1) | exact HB.out))) : w.heap.size ≤ gb453)); have n3_ := Aside0.mk ((by rw [hg]; exact (below_size (by repeat (first | (with_reducible first | exact HB.out | apply below_alloc | apply pw_below_drewN | apply below_drew1) | exact HB.out))) : w.heap.size ≤ gb453)); clear HB; have HB := n0_; have BK453 := n1_; have GW453 := n2_; have GE453 := n3_; clear n0_ n1_ n2_ n3_; clear hb hbox hg; have hcz4_0 : w3.cell? ⟨gb453, 0, none⟩ = some (.int .i64 0) := (blk_cell BK453.out 0).trans rfl; have hcz4_1 : w3.cell? ⟨gb453, 1, none⟩ = some (.int .i64 0) := (blk_cell BK453.out 1).trans rfl; have hcz4_2 : w3.cell? ⟨gb453, 2, none⟩ = some (.int .i64 0) := (blk_cell BK453.out 2).trans rfl; have hcz4_3 : w3.cell? ⟨gb453, 3, none⟩ = some (.int .i64 0) := (blk_cell BK453.out 3).trans rfl; have hcz4_4 : w3.cell? ⟨gb453, 4, none⟩ = some (.int .i64 0) := (blk_cell BK453.out 4).trans rfl; have hfz4_0 := blk_frozen BK453.out 0; have hfz4_1 := blk_frozen BK453.out 1; have hfz4_2 := blk_frozen BK453.out 2; have hfz4_3 := blk_frozen BK453.out 3; have hfz4_4 := blk_frozen BK453.out 4))
    refine bodyPost_ret (results_ct rfl _ _ gb453 23 #[.int .i64 0, .int .i64 0, .int .i64 0, .int .i64 0, .int .i64 0] (0, 0) _ rfl (by (with_reducible repeat (first | refine blk_drewN ?_ _ | refine blk_drew ?_ | refine blk_alloc ?_ _)); refine blk_put (cs := #[.int .i64 0, .int .i64 0, .int .i64 0, .int .i64 0, .int .i64 0]) ?_ 4 _ rfl; (with_reducible repeat (first | refine blk_drewN ?_ _ | refine blk_drew ?_ | refine blk_alloc ?_ _)); refine blk_put (cs := #[.int .i64 0, .int .i64 0, .int .i64 0, .int .i64 0, .int .i64 0]) ?_ 3 _ rfl; (with_reducible repeat (first | refine blk_drewN ?_ _ | refine blk_drew ?_ | refine blk_alloc ?_ _)); refine blk_put (cs := #[.int .i64 0, .int .i64 0, .int .i64 0, .int .i64 0, .int .i64 0]) ?_ 2 _ rfl; (with_reducible repeat (first | refine blk_drewN ?_ _ | refine blk_drew ?_ | refine blk_alloc ?_ _)); refine blk_put (cs := #[.int .i64 0, .int .i64 0, .int .i64 0, .int .i64 0, .int .i64 0]) ?_ 1 _ rfl; (with_reducible repeat (first | refine blk_drewN ?_ _ | refine blk_drew ?_ | refine blk_alloc ?_ _)); refine blk_put (cs := #[.int .i64 0, .int .i64 0, .int .i64 0, .int .i64 0, .int .i64 0]) ?_ 0 _ rfl; (with_reducible repeat (first | refine blk_drewN ?_ _ | refine blk_drew ?_ | refine blk_alloc ?_ _)); exact BK453.out) Tryz.underlying23 rfl (by kernel_rfl)) rfl ?_
    exact ⟨by first | rfl | (simp [errW_none, errW_some] <;> rfl) | (simp [*, errW_none, errW_some] <;> rfl), by repeat (first | (with_reducible first | exact HB.out | apply below_alloc | apply pw_below_drewN | apply below_drew1 | refine below_set ?_ GE453.out) | exact HB.out)⟩
  · rw [if_neg c2] at H
    have c2b0 : decide (a0 < 0) = false := decide_eq_false c2
    clear c2
    by_cases c5 : a0 > 60
    · rw [if_pos c5] at H
      have c5b0 : decide (60 < a0) = true := decide_eq_true c5
      clear c5
      simp only [Option.some.injEq, Prod.mk.injEq] at H
      obtain ⟨rfl, rfl, rfl, rfl, rfl, rfl⟩ := H
      go_enter Tryz.func6, Tryz.ntmps6
      go_wp2_with (first | ((with_reducible refine gate_dst (N := 2) rfl ?_); refine box_event ?hg (N := 2) ?hd (cs := #[.int .i64 0, .int .i64 0, .int .i64 0, .int .i64 0, .int .i64 0]) (t := 23) ?hr ?_; (case hd => rfl); (case hg => rfl); (case hr => first | (go_simp; done) | (go_simp; rfl)); intro gb453 hg w6 hbox hb; have n0_ := Aside0.mk (below_step (by repeat (first | (with_reducible first | exact HB.out | apply below_alloc | apply pw_below_drewN | apply below_drew1) | exact HB.out)) hb); have n1_ := Aside0.mk (hbox); have n2_ := Aside0.mk ((by rw [hg]; exact (below_size (by repeat (first | (with_reducible first | exact HB.out | apply below_alloc | apply pw_below_drewN | apply below_drew1) | exact HB.out))) : w.heap.size ≤ gb453)); have n3_ := Aside0.mk ((by rw [hg]; exact (below_size (by repeat (first | (with_reducible first | exact HB.out | apply below_alloc | apply pw_below_drewN | apply below_drew1) | exact HB.out))) : w.heap.size ≤ gb453)); clear HB; have HB := n0_; have BK453 := n1_; have GW453 := n2_; have GE453 := n3_; clear n0_ n1_ n2_ n3_; clear hb hbox hg; have hcz7_0 : w6.cell? ⟨gb453, 0, none⟩ = some (.int .i64 0) := (blk_cell BK453.out 0).trans rfl; have hcz7_1 : w6.cell? ⟨gb453, 1, none⟩ = some (.int .i64 0) := (blk_cell BK453.out 1).trans rfl; have hcz7_2 : w6.cell? ⟨gb453, 2, none⟩ = some (.int .i64 0) := (blk_cell BK453.out 2).trans rfl; have hcz7_3 : w6.cell? ⟨gb453, 3, none⟩ = some (.int .i64 0) := (blk_cell BK453.out 3).trans rfl; have hcz7_4 : w6.cell? ⟨gb453, 4, none⟩ = some (.int .i64 0) := (blk_cell BK453.out 4).trans rfl; have hfz7_0 := blk_frozen BK453.out 0; have hfz7_1 := blk_frozen BK453.out 1; have hfz7_2 := blk_frozen BK453.out 2; have hfz7_3 := blk_frozen BK453.out 3; have hfz7_4 := blk_frozen BK453.out 4))
      refine bodyPost_ret (results_ct rfl _ _ gb453 23 #[.int .i64 0, .int .i64 0, .int .i64 0, .int .i64 0, .int .i64 0] (0, 0) _ rfl (by (with_reducible repeat (first | refine blk_drewN ?_ _ | refine blk_drew ?_ | refine blk_alloc ?_ _)); refine blk_put (cs := #[.int .i64 0, .int .i64 0, .int .i64 0, .int .i64 0, .int .i64 0]) ?_ 4 _ rfl; (with_reducible repeat (first | refine blk_drewN ?_ _ | refine blk_drew ?_ | refine blk_alloc ?_ _)); refine blk_put (cs := #[.int .i64 0, .int .i64 0, .int .i64 0, .int .i64 0, .int .i64 0]) ?_ 3 _ rfl; (with_reducible repeat (first | refine blk_drewN ?_ _ | refine blk_drew ?_ | refine blk_alloc ?_ _)); refine blk_put (cs := #[.int .i64 0, .int .i64 0, .int .i64 0, .int .i64 0, .int .i64 0]) ?_ 2 _ rfl; (with_reducible repeat (first | refine blk_drewN ?_ _ | refine blk_drew ?_ | refine blk_alloc ?_ _)); refine blk_put (cs := #[.int .i64 0, .int .i64 0, .int .i64 0, .int .i64 0, .int .i64 0]) ?_ 1 _ rfl; (with_reducible repeat (first | refine blk_drewN ?_ _ | refine blk_drew ?_ | refine blk_alloc ?_ _)); refine blk_put (cs := #[.int .i64 0, .int .i64 0, .int .i64 0, .int .i64 0, .int .i64 0]) ?_ 0 _ rfl; (with_reducible repeat (first | refine blk_drewN ?_ _ | refine blk_drew ?_ | refine blk_alloc ?_ _)); exact BK453.out) Tryz.underlying23 rfl (by kernel_rfl)) rfl ?_
      exact ⟨by first | rfl | (simp [errW_none, errW_some] <;> rfl) | (simp [*, errW_none, errW_some] <;> rfl), by repeat (first | (with_reducible first | exact HB.out | apply below_alloc | apply pw_below_drewN | apply below_drew1 | refine below_set ?_ GE453.out) | exact HB.out)⟩
    · rw [if_neg c5] at H
      have c5b0 : decide (60 < a0) = false := decide_eq_false c5
      clear c5
      replace H := Option.bind_eq_some_iff.mp H
      obtain ⟨⟨t454, t455, t456, t457, t458⟩, A80, H⟩ := H
      replace H : (some (t454, t455, t456, t457, t458, 0)) = some (r1, r2, r3, r4, r5, r6) := H
      have A8 := Aside0.mk A80
      clear A80
      simp only [Option.some.injEq, Prod.mk.injEq] at H
      obtain ⟨rfl, rfl, rfl, rfl, rfl, rfl⟩ := H
      go_enter Tryz.func6, Tryz.ntmps6
      go_wp2_with (first | ((with_reducible refine gate_dst (N := 2) rfl ?_); refine box_event ?hg (N := 2) ?hd (cs := #[.int .i64 0, .int .i64 0, .int .i64 0, .int .i64 0, .int .i64 0]) (t := 23) ?hr ?_; (case hd => rfl); (case hg => rfl); (case hr => first | (go_simp; done) | (go_simp; rfl)); intro gb453 hg w9 hbox hb; have n0_ := Aside0.mk (below_step (by repeat (first | (with_reducible first | exact HB.out | apply below_alloc | apply pw_below_drewN | apply below_drew1) | exact HB.out)) hb); have n1_ := Aside0.mk (hbox); have n2_ := Aside0.mk ((by rw [hg]; exact (below_size (by repeat (first | (with_reducible first | exact HB.out | apply below_alloc | apply pw_below_drewN | apply below_drew1) | exact HB.out))) : w.heap.size ≤ gb453)); have n3_ := Aside0.mk ((by rw [hg]; exact (below_size (by repeat (first | (with_reducible first | exact HB.out | apply below_alloc | apply pw_below_drewN | apply below_drew1) | exact HB.out))) : w.heap.size ≤ gb453)); clear HB; have HB := n0_; have BK453 := n1_; have GW453 := n2_; have GE453 := n3_; clear n0_ n1_ n2_ n3_; clear hb hbox hg) | ((with_reducible refine gate_callee (f := 26) rfl ?_); refine goesL_ (some 13) rfl rfl Tryz.func26 (by kernel_rfl) rfl #[.agg #[.int .i64 1, .int .i64 0, .int .i64 0, .int .i64 0, .int .i64 a0]] rfl (by (try simp only [List.map_toArray, List.map_cons, List.map_nil]); first | done | rfl | (simp only [List.length_drop, List.length_take]; rfl)) ?_; (with_reducible refine (spoondriftref01_Form.calls k 1 0 0 0 a0 t454 t455 t456 t457 t458 _ A8.out).mono ?_); rintro e w10 ⟨rfl, hb⟩; refine ⟨_, rfl, ?_⟩; have n0_ := Aside0.mk (blk_below (g := gb453) (o := .cells #[.int .i64 0, .int .i64 0, .int .i64 0, .int .i64 0, .int .i64 0] 23 (0, 0)) (by (with_reducible repeat (first | refine blk_drewN ?_ _ | refine blk_drew ?_ | refine blk_alloc ?_ _)); exact BK453.out) hb); have n1_ := Aside0.mk (below_step (by repeat (first | (with_reducible first | exact HB.out | apply below_alloc | apply pw_below_drewN | apply below_drew1 | refine below_set ?_ GE453.out) | exact HB.out)) hb); clear BK453; clear HB; have BK453 := n0_; have HB := n1_; clear n0_ n1_; (try clear hb); (try clear hb2); (try clear hk); (try clear hi); have hcz11_0 : w10.cell? ⟨gb453, 0, none⟩ = some (.int .i64 0) := (blk_cell BK453.out 0).trans rfl; have hcz11_1 : w10.cell? ⟨gb453, 1, none⟩ = some (.int .i64 0) := (blk_cell BK453.out 1).trans rfl; have hcz11_2 : w10.cell? ⟨gb453, 2, none⟩ = some (.int .i64 0) := (blk_cell BK453.out 2).trans rfl; have hcz11_3 : w10.cell? ⟨gb453, 3, none⟩ = some (.int .i64 0) := (blk_cell BK453.out 3).trans rfl; have hcz11_4 : w10.cell? ⟨gb453, 4, none⟩ = some (.int .i64 0) := (blk_cell BK453.out 4).trans rfl; have hfz11_0 := blk_frozen BK453.out 0; have hfz11_1 := blk_frozen BK453.out 1; have hfz11_2 := blk_frozen BK453.out 2; have hfz11_3 := blk_frozen BK453.out 3; have hfz11_4 := blk_frozen BK453.out 4))
      refine bodyPost_ret (results_ct rfl _ _ gb453 23 #[.int .i64 t454, .int .i64 t455, .int .i64 t456, .int .i64 t457, .int .i64 t458] (0, 0) _ rfl (by (with_reducible repeat (first | refine blk_drewN ?_ _ | refine blk_drew ?_ | refine blk_alloc ?_ _)); refine blk_put (cs := #[.int .i64 t454, .int .i64 t455, .int .i64 t456, .int .i64 t457, .int .i64 0]) ?_ 4 _ rfl; (with_reducible repeat (first | refine blk_drewN ?_ _ | refine blk_drew ?_ | refine blk_alloc ?_ _)); refine blk_put (cs := #[.int .i64 t454, .int .i64 t455, .int .i64 t456, .int .i64 0, .int .i64 0]) ?_ 3 _ rfl; (with_reducible repeat (first | refine blk_drewN ?_ _ | refine blk_drew ?_ | refine blk_alloc ?_ _)); refine blk_put (cs := #[.int .i64 t454, .int .i64 t455, .int .i64 0, .int .i64 0, .int .i64 0]) ?_ 2 _ rfl; (with_reducible repeat (first | refine blk_drewN ?_ _ | refine blk_drew ?_ | refine blk_alloc ?_ _)); refine blk_put (cs := #[.int .i64 t454, .int .i64 0, .int .i64 0, .int .i64 0, .int .i64 0]) ?_ 1 _ rfl; (with_reducible repeat (first | refine blk_drewN ?_ _ | refine blk_drew ?_ | refine blk_alloc ?_ _)); refine blk_put (cs := #[.int .i64 0, .int .i64 0, .int .i64 0, .int .i64 0, .int .i64 0]) ?_ 0 _ rfl; (with_reducible repeat (first | refine blk_drewN ?_ _ | refine blk_drew ?_ | refine blk_alloc ?_ _)); exact BK453.out) Tryz.underlying23 rfl (by kernel_rfl)) rfl ?_
      exact ⟨by first | rfl | (simp [errW_none, errW_some] <;> rfl) | (simp [*, errW_none, errW_some] <;> rfl), by repeat (first | (with_reducible first | exact HB.out | apply below_alloc | apply pw_below_drewN | apply below_drew1 | refine below_set ?_ GE453.out) | exact HB.out)⟩
end Go.Proofs.YtepdnjjfhbjcjaaGreatDoorPR
end
section
set_option linter.all false
namespace Go.Proofs.YtepdnjjfhbjcjaaGreatDoor
open Go.RowKit Go.Proofs.YtepdnjjfhbjcjaaGreatDoorPR Go.Proofs.YtepdnjjfhbjcjaaGreatDoor.Inj
theorem om_succ : ∀ c : Fin 7, omP (c.val + 1) = ⟨-(omP c.val).d, (omP c.val).a, (omP c.val).b, (omP c.val).c⟩ := by decide
theorem om_wi : ∀ i : Fin 8, wiB (omP i.val).a (omP i.val).b (omP i.val).c (omP i.val).d 1073741824 = true := by decide
theorem om_one (i : Fin 8) : (omP i.val).le 1073741824 := (wiB_iff _ _).1 (om_wi i)
theorem Omega_l0_eq (i : Fin 8) : ∀ (j n c : Nat), c + j = i.val → j + 1 ≤ n → spoondriftref01_Omega.l0 n (i.val : Int) c (omP c).a (omP c).b (omP c).c (omP c).d 0 = some ((omP i.val).a, (omP i.val).b, (omP i.val).c, (omP i.val).d, 0) := by
  have hi := i.isLt
  have e0 : Int.tmod (wrap64 ((Int.tmod (i.val : Int) 8) + 8)) 8 = (i.val : Int) := by
    rw [Int.tmod_eq_emod_of_nonneg (a := (i.val : Int)) (by omega), wr (by omega), Int.tmod_eq_emod_of_nonneg (by omega)]
    omega
  intro j
  induction j with
  | zero =>
    intro n c hc hn
    obtain ⟨n, rfl⟩ : ∃ m, n = m + 1 := ⟨n - 1, by omega⟩
    simp only [spoondriftref01_Omega.l0]
    rw [e0, if_neg (by omega), show c = i.val by omega]
  | succ j ih =>
    intro n c hc hn
    obtain ⟨n, rfl⟩ : ∃ m, n = m + 1 := ⟨n - 1, by omega⟩
    simp only [spoondriftref01_Omega.l0]
    have ho := om_succ ⟨c, by omega⟩
    obtain ⟨_, _, _, ⟨h1, h2⟩⟩ := om_one ⟨c, by omega⟩
    dsimp only at ho h1 h2
    rw [e0, if_pos (by omega), wr (x := (c : Int) + 1) (by omega), wr (x := -(omP c).d) (by omega)]
    have := ih n (c + 1) (by omega) (by omega)
    rw [ho] at this
    exact this
theorem Omega_eq (n : Nat) (hn : 12 ≤ n) (i : Fin 8) : spoondriftref01_Omega.f n (i.val : Int) = some ((omP i.val).a, (omP i.val).b, (omP i.val).c, (omP i.val).d, 0) :=
  Omega_l0_eq i i.val n 0 (by omega) (by omega)
end Go.Proofs.YtepdnjjfhbjcjaaGreatDoor
end
