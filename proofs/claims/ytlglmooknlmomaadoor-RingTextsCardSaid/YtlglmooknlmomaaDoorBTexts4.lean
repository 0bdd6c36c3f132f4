import Derived.Test.YtlglmooknlmomaaDoorBTexts0
import Derived.Test.YtlglmooknlmomaaDoorBTexts1
import Derived.Test.YtlglmooknlmomaaDoorBTexts2
import Derived.Test.YtlglmooknlmomaaDoorBTexts3
set_option linter.all false
section
namespace Go.Proofs.YtlglmooknlmomaaDoorPR
open Go.RowKit Go.Proofs.YtlglmooknlmomaaDoor.Inj Go.Proofs.YtlglmooknlmomaaDoorW.PrintWords Go.Proofs.YtlglmooknlmomaaDoorW.PrintLast Go.Proofs.YtlglmooknlmomaaDoorW.PrintMore
attribute [local go_sem] max2_int min2_int max_two min_two max_three min_three max_four min_four
set_option linter.unusedVariables false
set_option linter.unusedSimpArgs false
attribute [local go_sem high] eqA23
def spoondriftlaw01_RingTexts.f (k : Nat) (a0_0 : Int) (a0_1 : Int) (a0_2 : Int) (a0_3 : Int) (a0_4 : Int) (a1 : ByteArray) : Option (Bool) := if (a1.size : Int) > 200 then ((spoondriftlaw01_awake.f).bind fun t242 => (some t242)) else ((spoondriftref01_Print.f k a0_0 a0_1 a0_2 a0_3 a0_4).bind fun bt243 => ((spoondriftref01_Parse.f k a1).bind fun bt245 => ((ring_Print.f a0_0 a0_1 a0_2 a0_3 a0_4).bind fun bt252 => ((ring_Parse.f a1).bind fun bt254 => (if bt252.2 = bt243.2 then (if bt254.2.2.2.2.2 = bt245.2.2.2.2.2 then (if bt252.1.toList = bt243.1.toList then (if (bt254.1 == bt245.1 && (bt254.2.1 == bt245.2.1 && (bt254.2.2.1 == bt245.2.2.1 && (bt254.2.2.2.1 == bt245.2.2.2.1 && (bt254.2.2.2.2.1 == bt245.2.2.2.2.1))))) = true then ((spoondriftlaw01_awake.f).bind fun t261 => (some t261)) else (some false)) else (some false)) else (some false)) else (some false))))))
theorem spoondriftlaw01_RingTexts.mono : ∀ a0 a1 a2 a3 a4 a5 k, LeO (spoondriftlaw01_RingTexts.f k a0 a1 a2 a3 a4 a5) (spoondriftlaw01_RingTexts.f (k + 1) a0 a1 a2 a3 a4 a5) := by
  intro a0 a1 a2 a3 a4 a5 k
  unfold spoondriftlaw01_RingTexts.f
  repeat' first
      | (with_reducible exact spoondriftref01_Parse.mono _ _)
      | (with_reducible exact spoondriftref01_Print.mono _ _ _ _ _ _)
      | (with_reducible exact LeO.refl _)
      | (with_reducible exact LeO.none _)
      | (with_reducible refine LeO.ite ?_ ?_)
      | (with_reducible refine LeO.bind ?_ (fun _ => ?_))
      | exact spoondriftref01_Parse.mono _ _
      | exact spoondriftref01_Print.mono _ _ _ _ _ _
      | exact LeO.none _
      | refine LeO.ite ?_ ?_
      | refine LeO.bind ?_ (fun _ => ?_)
set_option maxHeartbeats 8000000 in
set_option maxRecDepth 100000 in
theorem spoondriftlaw01_RingTexts.calls (k : Nat) (a0_0 : Int) (a0_1 : Int) (a0_2 : Int) (a0_3 : Int) (a0_4 : Int) (a1 : ByteArray) (w : World) (h : spoondriftlaw01_RingTexts.f k a0_0 a0_1 a0_2 a0_3 a0_4 a1 = some true) (ht : Go.Proofs.YtlglmooknlmomaaDoor.Tabs w) :
    Calls Tryd.prog 4 #[.agg #[.int .i64 a0_0, .int .i64 a0_1, .int .i64 a0_2, .int .i64 a0_3, .int .i64 a0_4], .string a1] w fun e w' => e = .returned (.bool true) ∧ Below w.heap.size w w' := by
  have hu23 := Tryd.underlying23
  have HTABS := Aside0.mk ht
  clear ht
  have HB := Aside0.mk (Below.refl w.heap.size w)
  have H : (if (a1.size : Int) > 200 then ((spoondriftlaw01_awake.f).bind fun t242 => (some t242)) else ((spoondriftref01_Print.f k a0_0 a0_1 a0_2 a0_3 a0_4).bind fun bt243 => ((spoondriftref01_Parse.f k a1).bind fun bt245 => ((ring_Print.f a0_0 a0_1 a0_2 a0_3 a0_4).bind fun bt252 => ((ring_Parse.f a1).bind fun bt254 => (if bt252.2 = bt243.2 then (if bt254.2.2.2.2.2 = bt245.2.2.2.2.2 then (if bt252.1.toList = bt243.1.toList then (if (bt254.1 == bt245.1 && (bt254.2.1 == bt245.2.1 && (bt254.2.2.1 == bt245.2.2.1 && (bt254.2.2.2.1 == bt245.2.2.2.1 && (bt254.2.2.2.2.1 == bt245.2.2.2.2.1))))) = true then ((spoondriftlaw01_awake.f).bind fun t261 => (some t261)) else (some false)) else (some false)) else (some false)) else (some false))))))) = some true := h
  clear h
  by_cases c3 : (a1.size : Int) > 200
  · rw [if_pos c3] at H
    have c3b0 : decide (200 < (a1.size : Int)) = true := decide_eq_true c3
    have c3b1 : decide (200 < a1.size) = true := decide_eq_true (by omega)
    clear c3
    replace H := Option.bind_eq_some_iff.mp H
    obtain ⟨t242, A40, H⟩ := H
    replace H : (some t242) = some true := H
    have A4 := Aside0.mk A40
    clear A40
    have HE_ := Aside0.mk (Option.some.inj H)
    go_enter Tryd.func4, Tryd.ntmps4
    go_wp2_with (first | ((with_reducible refine gate_dst (N := 2) rfl ?_); refine box_event ?hg (N := 2) ?hd (cs := #[.int .i64 a0_0, .int .i64 a0_1, .int .i64 a0_2, .int .i64 a0_3, .int .i64 a0_4]) (t := 23) ?hr ?_; (case hd => rfl); (case hg => rfl); (case hr => first | (go_simp; done) | (go_simp; rfl)); intro gb241 hg w5 hbox hb; have n0_ := Aside0.mk (below_step (by repeat (first | (with_reducible first | exact HB.out | apply below_alloc | apply pw_below_drewN | apply below_drew1) | exact HB.out)) hb); have n1_ := Aside0.mk (hbox); have n2_ := Aside0.mk ((by rw [hg]; exact (below_size (by repeat (first | (with_reducible first | exact HB.out | apply below_alloc | apply pw_below_drewN | apply below_drew1) | exact HB.out))) : w.heap.size ≤ gb241)); have n3_ := Aside0.mk ((by rw [hg]; exact (below_size (by repeat (first | (with_reducible first | exact HB.out | apply below_alloc | apply pw_below_drewN | apply below_drew1) | exact HB.out))) : w.heap.size ≤ gb241)); clear HB; have HB := n0_; have BK241 := n1_; have GW241 := n2_; have GE241 := n3_; clear n0_ n1_ n2_ n3_; clear hb hbox hg) | ((with_reducible refine gate_callee (f := 15) rfl ?_); refine goesL_ (some 16) rfl rfl Tryd.func15 (by kernel_rfl) rfl #[] rfl (by (try simp only [List.map_toArray, List.map_cons, List.map_nil]); first | done | rfl | (simp only [List.length_drop, List.length_take]; rfl)) ?_; (with_reducible refine (spoondriftlaw01_awake.calls  t242 _ A4.out (HTABS.out.below (by repeat (first | (with_reducible first | exact HB.out | apply below_alloc | apply pw_below_drewN | apply below_drew1 | refine below_set ?_ GE241.out) | exact HB.out)))).mono ?_); rintro e w6 ⟨rfl, hb⟩; refine ⟨_, rfl, ?_⟩; have n0_ := Aside0.mk (blk_below (g := gb241) (o := .cells #[.int .i64 a0_0, .int .i64 a0_1, .int .i64 a0_2, .int .i64 a0_3, .int .i64 a0_4] 23 (0, 0)) (by (with_reducible repeat (first | refine blk_drewN ?_ _ | refine blk_drew ?_ | refine blk_alloc ?_ _)); exact BK241.out) hb); have n1_ := Aside0.mk (below_step (by repeat (first | (with_reducible first | exact HB.out | apply below_alloc | apply pw_below_drewN | apply below_drew1 | refine below_set ?_ GE241.out) | exact HB.out)) hb); clear BK241; clear HB; have BK241 := n0_; have HB := n1_; clear n0_ n1_; (try clear hb); (try clear hb2); (try clear hk); (try clear hi)))
    go_ret
    exact ⟨by first | rfl | (rw [HE_.out]; done) | exact HE_.out | (simp only [HE_.out]; done) | (simp only [HE_.out]; rfl) | (simp [HE_.out, errW_none, errW_some]; done) | (simp [errW_none, errW_some] <;> rfl) | (simp [*, errW_none, errW_some] <;> rfl), by repeat (first | (with_reducible first | exact HB.out | apply below_alloc | apply pw_below_drewN | apply below_drew1 | refine below_set ?_ GE241.out) | exact HB.out)⟩
  · rw [if_neg c3] at H
    have c3b0 : decide (200 < (a1.size : Int)) = false := decide_eq_false c3
    have c3b1 : decide (200 < a1.size) = false := decide_eq_false (by omega)
    clear c3
    replace H := Option.bind_eq_some_iff.mp H
    obtain ⟨⟨t243, t244⟩, A70, H⟩ := H
    replace H : ((spoondriftref01_Parse.f k a1).bind fun bt245 => ((ring_Print.f a0_0 a0_1 a0_2 a0_3 a0_4).bind fun bt252 => ((ring_Parse.f a1).bind fun bt254 => (if bt252.2 = t244 then (if bt254.2.2.2.2.2 = bt245.2.2.2.2.2 then (if bt252.1.toList = t243.toList then (if (bt254.1 == bt245.1 && (bt254.2.1 == bt245.2.1 && (bt254.2.2.1 == bt245.2.2.1 && (bt254.2.2.2.1 == bt245.2.2.2.1 && (bt254.2.2.2.2.1 == bt245.2.2.2.2.1))))) = true then ((spoondriftlaw01_awake.f).bind fun t261 => (some t261)) else (some false)) else (some false)) else (some false)) else (some false))))) = some true := H
    have A7 := Aside0.mk A70
    clear A70
    replace H := Option.bind_eq_some_iff.mp H
    obtain ⟨⟨t245, t246, t247, t248, t249, t250⟩, A80, H⟩ := H
    replace H : ((ring_Print.f a0_0 a0_1 a0_2 a0_3 a0_4).bind fun bt252 => ((ring_Parse.f a1).bind fun bt254 => (if bt252.2 = t244 then (if bt254.2.2.2.2.2 = t250 then (if bt252.1.toList = t243.toList then (if (bt254.1 == t245 && (bt254.2.1 == t246 && (bt254.2.2.1 == t247 && (bt254.2.2.2.1 == t248 && (bt254.2.2.2.2.1 == t249))))) = true then ((spoondriftlaw01_awake.f).bind fun t261 => (some t261)) else (some false)) else (some false)) else (some false)) else (some false)))) = some true := H
    have A8 := Aside0.mk A80
    clear A80
    replace H := Option.bind_eq_some_iff.mp H
    obtain ⟨⟨t252, t253⟩, A90, H⟩ := H
    replace H : ((ring_Parse.f a1).bind fun bt254 => (if t253 = t244 then (if bt254.2.2.2.2.2 = t250 then (if t252.toList = t243.toList then (if (bt254.1 == t245 && (bt254.2.1 == t246 && (bt254.2.2.1 == t247 && (bt254.2.2.2.1 == t248 && (bt254.2.2.2.2.1 == t249))))) = true then ((spoondriftlaw01_awake.f).bind fun t261 => (some t261)) else (some false)) else (some false)) else (some false)) else (some false))) = some true := H
    have A9 := Aside0.mk A90
    clear A90
    replace H := Option.bind_eq_some_iff.mp H
    obtain ⟨⟨t254, t255, t256, t257, t258, t259⟩, A100, H⟩ := H
    replace H : (if t253 = t244 then (if t259 = t250 then (if t252.toList = t243.toList then (if (t254 == t245 && (t255 == t246 && (t256 == t247 && (t257 == t248 && (t258 == t249))))) = true then ((spoondriftlaw01_awake.f).bind fun t261 => (some t261)) else (some false)) else (some false)) else (some false)) else (some false)) = some true := H
    have A10 := Aside0.mk A100
    clear A100
    by_cases c11 : t253 = t244
    · rw [if_pos c11] at H
      have c11b0 : (t253 == t244) = true := beq_iff_eq.mpr c11
      have c11b1 : (t253 != t244) = false := bne_eq_false_iff_eq.mpr c11
      clear c11
      by_cases c12 : t259 = t250
      · rw [if_pos c12] at H
        have c12b0 : (t259 == t250) = true := beq_iff_eq.mpr c12
        have c12b1 : (t259 != t250) = false := bne_eq_false_iff_eq.mpr c12
        clear c12
        by_cases c13 : t252.toList = t243.toList
        · rw [if_pos c13] at H
          have c13b0 : (t252.toList == t243.toList) = true := beq_iff_eq.mpr c13
          have c13b1 : (t252.toList != t243.toList) = false := bne_eq_false_iff_eq.mpr c13
          clear c13
          by_cases c14 : (t254 == t245 && (t255 == t246 && (t256 == t247 && (t257 == t248 && (t258 == t249))))) = true
          · rw [if_pos c14] at H
            have c14b0 : (t254 == t245 && (t255 == t246 && (t256 == t247 && (t257 == t248 && (t258 == t249))))) = true := c14
            (try (have c14b1 : decide (t254 = t245 && (t255 == t246 && (t256 == t247 && (t257 == t248 && (t258 == t249))))) = true := by simpa using c14))
            (try (have c14b2 : (t254 == t245 && (t255 == t246 && (t256 == t247 && (t257 == t248 && (t258 == t249))))) = true := by simpa using c14))
            clear c14
            replace H := Option.bind_eq_some_iff.mp H
            obtain ⟨t261, A150, H⟩ := H
            replace H : (some t261) = some true := H
            have A15 := Aside0.mk A150
            clear A150
            have HE_ := Aside0.mk (Option.some.inj H)
            go_enter Tryd.func4, Tryd.ntmps4
            go_wp2_with (first | ((with_reducible refine gate_dst (N := 2) rfl ?_); refine box_event ?hg (N := 2) ?hd (cs := #[.int .i64 a0_0, .int .i64 a0_1, .int .i64 a0_2, .int .i64 a0_3, .int .i64 a0_4]) (t := 23) ?hr ?_; (case hd => rfl); (case hg => rfl); (case hr => first | (go_simp; done) | (go_simp; rfl)); intro gb241 hg w16 hbox hb; have n0_ := Aside0.mk (below_step (by repeat (first | (with_reducible first | exact HB.out | apply below_alloc | apply pw_below_drewN | apply below_drew1) | exact HB.out)) hb); have n1_ := Aside0.mk (hbox); have n2_ := Aside0.mk ((by rw [hg]; exact (below_size (by repeat (first | (with_reducible first | exact HB.out | apply below_alloc | apply pw_below_drewN | apply below_drew1) | exact HB.out))) : w.heap.size ≤ gb241)); have n3_ := Aside0.mk ((by rw [hg]; exact (below_size (by repeat (first | (with_reducible first | exact HB.out | apply below_alloc | apply pw_below_drewN | apply below_drew1) | exact HB.out))) : w.heap.size ≤ gb241)); clear HB; have HB := n0_; have BK241 := n1_; have GW241 := n2_; have GE241 := n3_; clear n0_ n1_ n2_ n3_; clear hb hbox hg; have hcz17_0 : w16.cell? ⟨gb241, 0, none⟩ = some (.int .i64 a0_0) := (blk_cell BK241.out 0).trans rfl; have hcz17_1 : w16.cell? ⟨gb241, 1, none⟩ = some (.int .i64 a0_1) := (blk_cell BK241.out 1).trans rfl; have hcz17_2 : w16.cell? ⟨gb241, 2, none⟩ = some (.int .i64 a0_2) := (blk_cell BK241.out 2).trans rfl; have hcz17_3 : w16.cell? ⟨gb241, 3, none⟩ = some (.int .i64 a0_3) := (blk_cell BK241.out 3).trans rfl; have hcz17_4 : w16.cell? ⟨gb241, 4, none⟩ = some (.int .i64 a0_4) := (blk_cell BK241.out 4).trans rfl; have hfz17_0 := blk_frozen BK241.out 0; have hfz17_1 := blk_frozen BK241.out 1; have hfz17_2 := blk_frozen BK241.out 2; have hfz17_3 := blk_frozen BK241.out 3; have hfz17_4 := blk_frozen BK241.out 4) | ((with_reducible refine gate_callee (f := 16) rfl ?_); refine goesL_ (some 19) rfl rfl Tryd.func16 (by kernel_rfl) rfl #[.agg #[.int .i64 a0_0, .int .i64 a0_1, .int .i64 a0_2, .int .i64 a0_3, .int .i64 a0_4]] rfl (by (try simp only [List.map_toArray, List.map_cons, List.map_nil]); first | done | rfl | (simp only [List.length_drop, List.length_take]; rfl)) ?_; (with_reducible refine (spoondriftref01_Print.calls k a0_0 a0_1 a0_2 a0_3 a0_4 t243 t244 _ A7.out).mono ?_); rintro e w18 ⟨rfl, hb⟩; refine ⟨_, rfl, ?_⟩; have n0_ := Aside0.mk (blk_below (g := gb241) (o := .cells #[.int .i64 a0_0, .int .i64 a0_1, .int .i64 a0_2, .int .i64 a0_3, .int .i64 a0_4] 23 (0, 0)) (by (with_reducible repeat (first | refine blk_drewN ?_ _ | refine blk_drew ?_ | refine blk_alloc ?_ _)); exact BK241.out) hb); have n1_ := Aside0.mk (below_step (by repeat (first | (with_reducible first | exact HB.out | apply below_alloc | apply pw_below_drewN | apply below_drew1 | refine below_set ?_ GE241.out) | exact HB.out)) hb); clear BK241; clear HB; have BK241 := n0_; have HB := n1_; clear n0_ n1_; (try clear hb); (try clear hb2); (try clear hk); (try clear hi)) | ((with_reducible refine gate_callee (f := 17) rfl ?_); refine goesL_ (some 24) rfl rfl Tryd.func17 (by kernel_rfl) rfl #[.string a1] rfl (by (try simp only [List.map_toArray, List.map_cons, List.map_nil]); first | done | rfl | (simp only [List.length_drop, List.length_take]; rfl)) ?_; (with_reducible refine (spoondriftref01_Parse.calls k a1 t245 t246 t247 t248 t249 t250 _ A8.out).mono ?_); rintro e w19 ⟨rfl, hb⟩; refine ⟨_, rfl, ?_⟩; have n0_ := Aside0.mk (blk_below (g := gb241) (o := .cells #[.int .i64 a0_0, .int .i64 a0_1, .int .i64 a0_2, .int .i64 a0_3, .int .i64 a0_4] 23 (0, 0)) (by (with_reducible repeat (first | refine blk_drewN ?_ _ | refine blk_drew ?_ | refine blk_alloc ?_ _)); exact BK241.out) hb); have n1_ := Aside0.mk (below_step (by repeat (first | (with_reducible first | exact HB.out | apply below_alloc | apply pw_below_drewN | apply below_drew1 | refine below_set ?_ GE241.out) | exact HB.out)) hb); clear BK241; clear HB; have BK241 := n0_; have HB := n1_; clear n0_ n1_; (try clear hb); (try clear hb2); (try clear hk); (try clear hi)) | ((with_reducible refine gate_dst (N := 7) rfl ?_); refine box_event ?hg (N := 7) ?hd (cs := #[.int .i64 0, .int .i64 0, .int .i64 0, .int .i64 0, .int .i64 0]) (t := 23) ?hr ?_; (case hd => rfl); (case hg => rfl); (case hr => first | (go_simp; done) | (go_simp; rfl)); intro gb251 hg w20 hbox hb; have n0_ := Aside0.mk (blk_below (g := gb241) (o := .cells #[.int .i64 a0_0, .int .i64 a0_1, .int .i64 a0_2, .int .i64 a0_3, .int .i64 a0_4] 23 (0, 0)) (by (with_reducible repeat (first | refine blk_drewN ?_ _ | refine blk_drew ?_ | refine blk_alloc ?_ _)); exact BK241.out) hb); have n1_ := Aside0.mk (below_step (by repeat (first | (with_reducible first | exact HB.out | apply below_alloc | apply pw_below_drewN | apply below_drew1 | refine below_set ?_ GE241.out) | exact HB.out)) hb); have n2_ := Aside0.mk (hbox); have n3_ := Aside0.mk ((by rw [hg]; exact (below_size (by repeat (first | (with_reducible first | exact HB.out | apply below_alloc | apply pw_below_drewN | apply below_drew1 | refine below_set ?_ GE241.out) | exact HB.out))) : w.heap.size ≤ gb251)); have n4_ := Aside0.mk ((by rw [hg]; exact (below_size (by repeat (first | (with_reducible first | exact HB.out | apply below_alloc | apply pw_below_drewN | apply below_drew1 | refine below_set ?_ GE241.out) | exact HB.out))) : w.heap.size ≤ gb251)); have n5_ := Aside0.mk ((by rw [hg]; exact Nat.ne_of_lt (blk_lt (g := gb241) (o := .cells #[.int .i64 a0_0, .int .i64 a0_1, .int .i64 a0_2, .int .i64 a0_3, .int .i64 a0_4] 23 (0, 0)) (by (with_reducible repeat (first | refine blk_drewN ?_ _ | refine blk_drew ?_ | refine blk_alloc ?_ _)); exact BK241.out)) : gb241 ≠ gb251)); have n6_ := Aside0.mk ((by rw [hg]; exact Nat.ne_of_gt (blk_lt (g := gb241) (o := .cells #[.int .i64 a0_0, .int .i64 a0_1, .int .i64 a0_2, .int .i64 a0_3, .int .i64 a0_4] 23 (0, 0)) (by (with_reducible repeat (first | refine blk_drewN ?_ _ | refine blk_drew ?_ | refine blk_alloc ?_ _)); exact BK241.out)) : gb251 ≠ gb241)); clear BK241; clear HB; have BK241 := n0_; have HB := n1_; have BK251 := n2_; have GW251 := n3_; have GE251 := n4_; have NB241_251 := n5_; have NB251_241 := n6_; clear n0_ n1_ n2_ n3_ n4_ n5_ n6_; clear hb hbox hg; have hnb21 := NB251_241.out; have hnc21 := NB241_251.out; have hcz22_0 : w20.cell? ⟨gb251, 0, none⟩ = some (.int .i64 0) := (blk_cell BK251.out 0).trans rfl; have hcz22_1 : w20.cell? ⟨gb251, 1, none⟩ = some (.int .i64 0) := (blk_cell BK251.out 1).trans rfl; have hcz22_2 : w20.cell? ⟨gb251, 2, none⟩ = some (.int .i64 0) := (blk_cell BK251.out 2).trans rfl; have hcz22_3 : w20.cell? ⟨gb251, 3, none⟩ = some (.int .i64 0) := (blk_cell BK251.out 3).trans rfl; have hcz22_4 : w20.cell? ⟨gb251, 4, none⟩ = some (.int .i64 0) := (blk_cell BK251.out 4).trans rfl; have hfz22_0 := blk_frozen BK251.out 0; have hfz22_1 := blk_frozen BK251.out 1; have hfz22_2 := blk_frozen BK251.out 2; have hfz22_3 := blk_frozen BK251.out 3; have hfz22_4 := blk_frozen BK251.out 4; have hcz23_0 : w20.cell? ⟨gb241, 0, none⟩ = some (.int .i64 a0_0) := (blk_cell BK241.out 0).trans rfl; have hcz23_1 : w20.cell? ⟨gb241, 1, none⟩ = some (.int .i64 a0_1) := (blk_cell BK241.out 1).trans rfl; have hcz23_2 : w20.cell? ⟨gb241, 2, none⟩ = some (.int .i64 a0_2) := (blk_cell BK241.out 2).trans rfl; have hcz23_3 : w20.cell? ⟨gb241, 3, none⟩ = some (.int .i64 a0_3) := (blk_cell BK241.out 3).trans rfl; have hcz23_4 : w20.cell? ⟨gb241, 4, none⟩ = some (.int .i64 a0_4) := (blk_cell BK241.out 4).trans rfl; have hfz23_0 := blk_frozen BK241.out 0; have hfz23_1 := blk_frozen BK241.out 1; have hfz23_2 := blk_frozen BK241.out 2; have hfz23_3 := blk_frozen BK241.out 3; have hfz23_4 := blk_frozen BK241.out 4) | ((with_reducible refine gate_callee (f := 18) rfl ?_); refine goesL_ (some 29) rfl rfl Tryd.func18 (by kernel_rfl) rfl #[.agg #[.int .i64 a0_0, .int .i64 a0_1, .int .i64 a0_2, .int .i64 a0_3, .int .i64 a0_4]] rfl (by (try simp only [List.map_toArray, List.map_cons, List.map_nil]); first | done | rfl | (simp only [List.length_drop, List.length_take]; rfl)) ?_; (with_reducible refine (ring_Print.calls a0_0 a0_1 a0_2 a0_3 a0_4 t252 t253 _ A9.out (HTABS.out.below (by repeat (first | (with_reducible first | exact HB.out | apply below_alloc | apply pw_below_drewN | apply below_drew1 | refine below_set ?_ GE241.out | refine below_set ?_ GE251.out) | exact HB.out)))).mono ?_); rintro e w24 ⟨rfl, hb⟩; refine ⟨_, rfl, ?_⟩; have n0_ := Aside0.mk (blk_below (g := gb241) (o := .cells #[.int .i64 a0_0, .int .i64 a0_1, .int .i64 a0_2, .int .i64 a0_3, .int .i64 a0_4] 23 (0, 0)) (by (with_reducible repeat (first | refine blk_drewN ?_ _ | refine blk_drew ?_ | refine blk_alloc ?_ _)); refine blk_far ?_ NB241_251.out _; (with_reducible repeat (first | refine blk_drewN ?_ _ | refine blk_drew ?_ | refine blk_alloc ?_ _)); refine blk_far ?_ NB241_251.out _; (with_reducible repeat (first | refine blk_drewN ?_ _ | refine blk_drew ?_ | refine blk_alloc ?_ _)); refine blk_far ?_ NB241_251.out _; (with_reducible repeat (first | refine blk_drewN ?_ _ | refine blk_drew ?_ | refine blk_alloc ?_ _)); refine blk_far ?_ NB241_251.out _; (with_reducible repeat (first | refine blk_drewN ?_ _ | refine blk_drew ?_ | refine blk_alloc ?_ _)); refine blk_far ?_ NB241_251.out _; (with_reducible repeat (first | refine blk_drewN ?_ _ | refine blk_drew ?_ | refine blk_alloc ?_ _)); exact BK241.out) hb); have n1_ := Aside0.mk (blk_below (g := gb251) (o := .cells #[.int .i64 t245, .int .i64 t246, .int .i64 t247, .int .i64 t248, .int .i64 t249] 23 (0, 0)) (by (with_reducible repeat (first | refine blk_drewN ?_ _ | refine blk_drew ?_ | refine blk_alloc ?_ _)); refine blk_put (cs := #[.int .i64 t245, .int .i64 t246, .int .i64 t247, .int .i64 t248, .int .i64 0]) ?_ 4 _ rfl; (with_reducible repeat (first | refine blk_drewN ?_ _ | refine blk_drew ?_ | refine blk_alloc ?_ _)); refine blk_put (cs := #[.int .i64 t245, .int .i64 t246, .int .i64 t247, .int .i64 0, .int .i64 0]) ?_ 3 _ rfl; (with_reducible repeat (first | refine blk_drewN ?_ _ | refine blk_drew ?_ | refine blk_alloc ?_ _)); refine blk_put (cs := #[.int .i64 t245, .int .i64 t246, .int .i64 0, .int .i64 0, .int .i64 0]) ?_ 2 _ rfl; (with_reducible repeat (first | refine blk_drewN ?_ _ | refine blk_drew ?_ | refine blk_alloc ?_ _)); refine blk_put (cs := #[.int .i64 t245, .int .i64 0, .int .i64 0, .int .i64 0, .int .i64 0]) ?_ 1 _ rfl; (with_reducible repeat (first | refine blk_drewN ?_ _ | refine blk_drew ?_ | refine blk_alloc ?_ _)); refine blk_put (cs := #[.int .i64 0, .int .i64 0, .int .i64 0, .int .i64 0, .int .i64 0]) ?_ 0 _ rfl; (with_reducible repeat (first | refine blk_drewN ?_ _ | refine blk_drew ?_ | refine blk_alloc ?_ _)); exact BK251.out) hb); have n2_ := Aside0.mk (below_step (by repeat (first | (with_reducible first | exact HB.out | apply below_alloc | apply pw_below_drewN | apply below_drew1 | refine below_set ?_ GE241.out | refine below_set ?_ GE251.out) | exact HB.out)) hb); clear BK241; clear BK251; clear HB; have BK241 := n0_; have BK251 := n1_; have HB := n2_; clear n0_ n1_ n2_; (try clear hb); (try clear hb2); (try clear hk); (try clear hi)) | ((with_reducible refine gate_callee (f := 19) rfl ?_); refine goesL_ (some 34) rfl rfl Tryd.func19 (by kernel_rfl) rfl #[.string a1] rfl (by (try simp only [List.map_toArray, List.map_cons, List.map_nil]); first | done | rfl | (simp only [List.length_drop, List.length_take]; rfl)) ?_; (with_reducible refine (ring_Parse.calls a1 t254 t255 t256 t257 t258 t259 _ A10.out (HTABS.out.below (by repeat (first | (with_reducible first | exact HB.out | apply below_alloc | apply pw_below_drewN | apply below_drew1 | refine below_set ?_ GE241.out | refine below_set ?_ GE251.out) | exact HB.out)))).mono ?_); rintro e w25 ⟨rfl, hb⟩; refine ⟨_, rfl, ?_⟩; have n0_ := Aside0.mk (blk_below (g := gb241) (o := .cells #[.int .i64 a0_0, .int .i64 a0_1, .int .i64 a0_2, .int .i64 a0_3, .int .i64 a0_4] 23 (0, 0)) (by (with_reducible repeat (first | refine blk_drewN ?_ _ | refine blk_drew ?_ | refine blk_alloc ?_ _)); exact BK241.out) hb); have n1_ := Aside0.mk (blk_below (g := gb251) (o := .cells #[.int .i64 t245, .int .i64 t246, .int .i64 t247, .int .i64 t248, .int .i64 t249] 23 (0, 0)) (by (with_reducible repeat (first | refine blk_drewN ?_ _ | refine blk_drew ?_ | refine blk_alloc ?_ _)); exact BK251.out) hb); have n2_ := Aside0.mk (below_step (by repeat (first | (with_reducible first | exact HB.out | apply below_alloc | apply pw_below_drewN | apply below_drew1 | refine below_set ?_ GE241.out | refine below_set ?_ GE251.out) | exact HB.out)) hb); clear BK241; clear BK251; clear HB; have BK241 := n0_; have BK251 := n1_; have HB := n2_; clear n0_ n1_ n2_; (try clear hb); (try clear hb2); (try clear hk); (try clear hi)) | ((with_reducible refine gate_dst (N := 11) rfl ?_); refine box_event ?hg (N := 11) ?hd (cs := #[.int .i64 0, .int .i64 0, .int .i64 0, .int .i64 0, .int .i64 0]) (t := 23) ?hr ?_; (case hd => rfl); (case hg => rfl); (case hr => first | (go_simp; done) | (go_simp; rfl)); intro gb260 hg w26 hbox hb; have n0_ := Aside0.mk (blk_below (g := gb241) (o := .cells #[.int .i64 a0_0, .int .i64 a0_1, .int .i64 a0_2, .int .i64 a0_3, .int .i64 a0_4] 23 (0, 0)) (by (with_reducible repeat (first | refine blk_drewN ?_ _ | refine blk_drew ?_ | refine blk_alloc ?_ _)); exact BK241.out) hb); have n1_ := Aside0.mk (blk_below (g := gb251) (o := .cells #[.int .i64 t245, .int .i64 t246, .int .i64 t247, .int .i64 t248, .int .i64 t249] 23 (0, 0)) (by (with_reducible repeat (first | refine blk_drewN ?_ _ | refine blk_drew ?_ | refine blk_alloc ?_ _)); exact BK251.out) hb); have n2_ := Aside0.mk (below_step (by repeat (first | (with_reducible first | exact HB.out | apply below_alloc | apply pw_below_drewN | apply below_drew1 | refine below_set ?_ GE241.out | refine below_set ?_ GE251.out) | exact HB.out)) hb); have n3_ := Aside0.mk (hbox); have n4_ := Aside0.mk ((by rw [hg]; exact (below_size (by repeat (first | (with_reducible first | exact HB.out | apply below_alloc | apply pw_below_drewN | apply below_drew1 | refine below_set ?_ GE241.out | refine below_set ?_ GE251.out) | exact HB.out))) : w.heap.size ≤ gb260)); have n5_ := Aside0.mk ((by rw [hg]; exact (below_size (by repeat (first | (with_reducible first | exact HB.out | apply below_alloc | apply pw_below_drewN | apply below_drew1 | refine below_set ?_ GE241.out | refine below_set ?_ GE251.out) | exact HB.out))) : w.heap.size ≤ gb260)); have n6_ := Aside0.mk ((by rw [hg]; exact Nat.ne_of_lt (blk_lt (g := gb241) (o := .cells #[.int .i64 a0_0, .int .i64 a0_1, .int .i64 a0_2, .int .i64 a0_3, .int .i64 a0_4] 23 (0, 0)) (by (with_reducible repeat (first | refine blk_drewN ?_ _ | refine blk_drew ?_ | refine blk_alloc ?_ _)); exact BK241.out)) : gb241 ≠ gb260)); have n7_ := Aside0.mk ((by rw [hg]; exact Nat.ne_of_gt (blk_lt (g := gb241) (o := .cells #[.int .i64 a0_0, .int .i64 a0_1, .int .i64 a0_2, .int .i64 a0_3, .int .i64 a0_4] 23 (0, 0)) (by (with_reducible repeat (first | refine blk_drewN ?_ _ | refine blk_drew ?_ | refine blk_alloc ?_ _)); exact BK241.out)) : gb260 ≠ gb241)); have n8_ := Aside0.mk ((by rw [hg]; exact Nat.ne_of_lt (blk_lt (g := gb251) (o := .cells #[.int .i64 t245, .int .i64 t246, .int .i64 t247, .int .i64 t248, .int .i64 t249] 23 (0, 0)) (by (with_reducible repeat (first | refine blk_drewN ?_ _ | refine blk_drew ?_ | refine blk_alloc ?_ _)); exact BK251.out)) : gb251 ≠ gb260)); have n9_ := Aside0.mk ((by rw [hg]; exact Nat.ne_of_gt (blk_lt (g := gb251) (o := .cells #[.int .i64 t245, .int .i64 t246, .int .i64 t247, .int .i64 t248, .int .i64 t249] 23 (0, 0)) (by (with_reducible repeat (first | refine blk_drewN ?_ _ | refine blk_drew ?_ | refine blk_alloc ?_ _)); exact BK251.out)) : gb260 ≠ gb251)); clear BK241; clear BK251; clear HB; have BK241 := n0_; have BK251 := n1_; have HB := n2_; have BK260 := n3_; have GW260 := n4_; have GE260 := n5_; have NB241_260 := n6_; have NB260_241 := n7_; have NB251_260 := n8_; have NB260_251 := n9_; clear n0_ n1_ n2_ n3_ n4_ n5_ n6_ n7_ n8_ n9_; clear hb hbox hg; have hnb27 := NB260_241.out; have hnc27 := NB241_260.out; have hnb28 := NB260_251.out; have hnc28 := NB251_260.out; have hcz29_0 : w26.cell? ⟨gb260, 0, none⟩ = some (.int .i64 0) := (blk_cell BK260.out 0).trans rfl; have hcz29_1 : w26.cell? ⟨gb260, 1, none⟩ = some (.int .i64 0) := (blk_cell BK260.out 1).trans rfl; have hcz29_2 : w26.cell? ⟨gb260, 2, none⟩ = some (.int .i64 0) := (blk_cell BK260.out 2).trans rfl; have hcz29_3 : w26.cell? ⟨gb260, 3, none⟩ = some (.int .i64 0) := (blk_cell BK260.out 3).trans rfl; have hcz29_4 : w26.cell? ⟨gb260, 4, none⟩ = some (.int .i64 0) := (blk_cell BK260.out 4).trans rfl; have hfz29_0 := blk_frozen BK260.out 0; have hfz29_1 := blk_frozen BK260.out 1; have hfz29_2 := blk_frozen BK260.out 2; have hfz29_3 := blk_frozen BK260.out 3; have hfz29_4 := blk_frozen BK260.out 4; have hcz30_0 : w26.cell? ⟨gb251, 0, none⟩ = some (.int .i64 t245) := (blk_cell BK251.out 0).trans rfl; have hcz30_1 : w26.cell? ⟨gb251, 1, none⟩ = some (.int .i64 t246) := (blk_cell BK251.out 1).trans rfl; have hcz30_2 : w26.cell? ⟨gb251, 2, none⟩ = some (.int .i64 t247) := (blk_cell BK251.out 2).trans rfl; have hcz30_3 : w26.cell? ⟨gb251, 3, none⟩ = some (.int .i64 t248) := (blk_cell BK251.out 3).trans rfl; have hcz30_4 : w26.cell? ⟨gb251, 4, none⟩ = some (.int .i64 t249) := (blk_cell BK251.out 4).trans rfl; have hfz30_0 := blk_frozen BK251.out 0; have hfz30_1 := blk_frozen BK251.out 1; have hfz30_2 := blk_frozen BK251.out 2; have hfz30_3 := blk_frozen BK251.out 3; have hfz30_4 := blk_frozen BK251.out 4) | (go_at_call 15; (with_reducible refine (spoondriftlaw01_awake.calls  t261 _ A15.out (HTABS.out.below (by repeat (first | (with_reducible first | exact HB.out | apply below_alloc | apply pw_below_drewN | apply below_drew1 | refine below_set ?_ GE241.out | refine below_set ?_ GE251.out | refine below_set ?_ GE260.out) | exact HB.out)))).mono ?_); rintro e w31 ⟨rfl, hb⟩; have n0_ := Aside0.mk (blk_below (g := gb241) (o := .cells #[.int .i64 a0_0, .int .i64 a0_1, .int .i64 a0_2, .int .i64 a0_3, .int .i64 a0_4] 23 (0, 0)) (by (with_reducible repeat (first | refine blk_drewN ?_ _ | refine blk_drew ?_ | refine blk_alloc ?_ _)); refine blk_far ?_ NB241_260.out _; (with_reducible repeat (first | refine blk_drewN ?_ _ | refine blk_drew ?_ | refine blk_alloc ?_ _)); refine blk_far ?_ NB241_260.out _; (with_reducible repeat (first | refine blk_drewN ?_ _ | refine blk_drew ?_ | refine blk_alloc ?_ _)); refine blk_far ?_ NB241_260.out _; (with_reducible repeat (first | refine blk_drewN ?_ _ | refine blk_drew ?_ | refine blk_alloc ?_ _)); refine blk_far ?_ NB241_260.out _; (with_reducible repeat (first | refine blk_drewN ?_ _ | refine blk_drew ?_ | refine blk_alloc ?_ _)); refine blk_far ?_ NB241_260.out _; (with_reducible repeat (first | refine blk_drewN ?_ _ | refine blk_drew ?_ | refine blk_alloc ?_ _)); exact BK241.out) hb); have n1_ := Aside0.mk (blk_below (g := gb251) (o := .cells #[.int .i64 t245, .int .i64 t246, .int .i64 t247, .int .i64 t248, .int .i64 t249] 23 (0, 0)) (by (with_reducible repeat (first | refine blk_drewN ?_ _ | refine blk_drew ?_ | refine blk_alloc ?_ _)); refine blk_far ?_ NB251_260.out _; (with_reducible repeat (first | refine blk_drewN ?_ _ | refine blk_drew ?_ | refine blk_alloc ?_ _)); refine blk_far ?_ NB251_260.out _; (with_reducible repeat (first | refine blk_drewN ?_ _ | refine blk_drew ?_ | refine blk_alloc ?_ _)); refine blk_far ?_ NB251_260.out _; (with_reducible repeat (first | refine blk_drewN ?_ _ | refine blk_drew ?_ | refine blk_alloc ?_ _)); refine blk_far ?_ NB251_260.out _; (with_reducible repeat (first | refine blk_drewN ?_ _ | refine blk_drew ?_ | refine blk_alloc ?_ _)); refine blk_far ?_ NB251_260.out _; (with_reducible repeat (first | refine blk_drewN ?_ _ | refine blk_drew ?_ | refine blk_alloc ?_ _)); exact BK251.out) hb); have n2_ := Aside0.mk (blk_below (g := gb260) (o := .cells #[.int .i64 t254, .int .i64 t255, .int .i64 t256, .int .i64 t257, .int .i64 t258] 23 (0, 0)) (by (with_reducible repeat (first | refine blk_drewN ?_ _ | refine blk_drew ?_ | refine blk_alloc ?_ _)); refine blk_put (cs := #[.int .i64 t254, .int .i64 t255, .int .i64 t256, .int .i64 t257, .int .i64 0]) ?_ 4 _ rfl; (with_reducible repeat (first | refine blk_drewN ?_ _ | refine blk_drew ?_ | refine blk_alloc ?_ _)); refine blk_put (cs := #[.int .i64 t254, .int .i64 t255, .int .i64 t256, .int .i64 0, .int .i64 0]) ?_ 3 _ rfl; (with_reducible repeat (first | refine blk_drewN ?_ _ | refine blk_drew ?_ | refine blk_alloc ?_ _)); refine blk_put (cs := #[.int .i64 t254, .int .i64 t255, .int .i64 0, .int .i64 0, .int .i64 0]) ?_ 2 _ rfl; (with_reducible repeat (first | refine blk_drewN ?_ _ | refine blk_drew ?_ | refine blk_alloc ?_ _)); refine blk_put (cs := #[.int .i64 t254, .int .i64 0, .int .i64 0, .int .i64 0, .int .i64 0]) ?_ 1 _ rfl; (with_reducible repeat (first | refine blk_drewN ?_ _ | refine blk_drew ?_ | refine blk_alloc ?_ _)); refine blk_put (cs := #[.int .i64 0, .int .i64 0, .int .i64 0, .int .i64 0, .int .i64 0]) ?_ 0 _ rfl; (with_reducible repeat (first | refine blk_drewN ?_ _ | refine blk_drew ?_ | refine blk_alloc ?_ _)); exact BK260.out) hb); have n3_ := Aside0.mk (below_step (by repeat (first | (with_reducible first | exact HB.out | apply below_alloc | apply pw_below_drewN | apply below_drew1 | refine below_set ?_ GE241.out | refine below_set ?_ GE251.out | refine below_set ?_ GE260.out) | exact HB.out)) hb); clear BK241; clear BK251; clear BK260; clear HB; have BK241 := n0_; have BK251 := n1_; have BK260 := n2_; have HB := n3_; clear n0_ n1_ n2_ n3_; (try clear hb); (try clear hb2); (try clear hk); (try clear hi)))
            go_ret
            exact ⟨by first | rfl | (rw [HE_.out]; done) | exact HE_.out | (simp only [HE_.out]; done) | (simp only [HE_.out]; rfl) | (simp [HE_.out, errW_none, errW_some]; done) | (simp [errW_none, errW_some] <;> rfl) | (simp [*, errW_none, errW_some] <;> rfl), by repeat (first | (with_reducible first | exact HB.out | apply below_alloc | apply pw_below_drewN | apply below_drew1 | refine below_set ?_ GE241.out | refine below_set ?_ GE251.out | refine below_set ?_ GE260.out) | exact HB.out)⟩
          · rw [if_neg c14] at H
            have c14b0 : (t254 == t245 && (t255 == t246 && (t256 == t247 && (t257 == t248 && (t258 == t249))))) = false := by simpa using c14
            (try (have c14b1 : decide (t254 = t245 && (t255 == t246 && (t256 == t247 && (t257 == t248 && (t258 == t249))))) = false := by simpa using c14))
            (try (have c14b2 : (t254 == t245 && (t255 == t246 && (t256 == t247 && (t257 == t248 && (t258 == t249))))) = false := by simpa using c14))
            (try (have c14b3 : ¬ (t254 = t245 && (t255 == t246 && (t256 == t247 && (t257 == t248 && (t258 == t249))))) := by simpa using c14))
            clear c14
            exact absurd H (by simp)
        · rw [if_neg c13] at H
          have c13b0 : (t252.toList == t243.toList) = false := beq_eq_false_iff_ne.mpr c13
          have c13b1 : (t252.toList != t243.toList) = true := bne_iff_ne.mpr c13
          exact absurd H (by simp)
      · rw [if_neg c12] at H
        have c12b0 : (t259 == t250) = false := beq_eq_false_iff_ne.mpr c12
        have c12b1 : (t259 != t250) = true := bne_iff_ne.mpr c12
        exact absurd H (by simp)
    · rw [if_neg c11] at H
      have c11b0 : (t253 == t244) = false := beq_eq_false_iff_ne.mpr c11
      have c11b1 : (t253 != t244) = true := bne_iff_ne.mpr c11
      exact absurd H (by simp)
end Go.Proofs.YtlglmooknlmomaaDoorPR
end
section
set_option linter.all false
namespace Go.Proofs.YtlglmooknlmomaaDoor
open Go.RowKit Go.Proofs.YtlglmooknlmomaaDoorPR Go.Proofs.YtlglmooknlmomaaDoor.Inj Go.Proofs.YtlglmooknlmomaaDoorW.PrintWords
def endsR : List UInt8 → Bool
  | [] => true
  | b :: _ => b == 43 || (b == 45 || b == 41)
theorem endsR_cases {r : List UInt8} (h : endsR r = true) : r = [] ∨ ∃ b t, r = b :: t ∧ (b = 43 ∨ b = 45 ∨ b = 41) := by
  match r, h with
  | [], _ => exact .inl rfl
  | b :: t, h =>
    simp only [endsR, Bool.or_eq_true, beq_iff_eq] at h
    exact .inr ⟨b, t, rfl, h⟩
theorem digN_endsR {r : List UInt8} (h : endsR r = true) : digN r = 0 := by
  rcases endsR_cases h with rfl | ⟨b, t, rfl, h1⟩
  · rfl
  · refine digN_cons_neg ?_
    rcases h1 with rfl | rfl | rfl <;> decide
theorem digN_unitR (i : Nat) {r : List UInt8} (h : endsR r = true) : digN (unitB i ++ r) = 0 := by
  match i with
  | 0 => exact digN_endsR h
  | 1 => exact digN_cons_neg (by decide)
  | 2 => exact digN_cons_neg (by decide)
  | n + 3 => exact digN_cons_neg (by decide)
theorem rUnit_unit (i : Nat) (hi : i < 4) {r : List UInt8} (h : endsR r = true) : rUnit (unitB i ++ r) = (i, r) := by
  rcases endsR_cases h with rfl | ⟨b, t, rfl, h1⟩
  · match i, hi with
    | 0, _ => rfl
    | 1, _ => rfl
    | 2, _ => rfl
    | 3, _ => rfl
  · match i, hi with
    | 0, _ =>
      show rUnit (b :: t) = _
      have hb : b ≠ 119 := by rcases h1 with rfl | rfl | rfl <;> decide
      simp [rUnit, hb]
    | 1, _ =>
      show rUnit (119 :: b :: t) = _
      rcases h1 with rfl | rfl | rfl <;> rfl
    | 2, _ => rfl
    | 3, _ => rfl
theorem decV_ge (l : List UInt8) : ∀ acc, acc ≤ decV acc l := by
  induction l with
  | nil => intro acc; exact Nat.le_refl _
  | cons b r ih =>
    intro acc
    rw [decV_cons]
    have := ih (acc * 10 + (b.toNat - 48))
    omega
theorem capV_digits (ds r : List UInt8) (hr : digN r = 0) : ∀ v, (∀ b ∈ ds, isD b = true) → decV v ds ≤ 2147483648 → capV v (ds ++ r) = decV v ds := by
  induction ds with
  | nil =>
    intro v _ _
    rw [List.nil_append, decV_nil]
    cases r with
    | nil => rfl
    | cons b t =>
      unfold capV
      cases hb : isD b with
      | false => rfl
      | true => rw [digN_cons_pos hb] at hr; omega
  | cons b ds ih =>
    intro v h hv
    have hb := h b (by simp)
    rw [decV_cons] at hv
    have hg := decV_ge ds (v * 10 + (b.toNat - 48))
    rw [List.cons_append]
    unfold capV
    rw [if_pos hb, show min (10 * v + (b.toNat - 48)) 2147483648 = v * 10 + (b.toNat - 48) by omega, ih _ (fun c hc => h c (by simp [hc])) hv, decV_cons]
theorem rNum_body (i m : Nat) (hm : m ≤ 1073741824) {r : List UInt8} (h : endsR r = true) : rNum (bodyT i m ++ r) = (m : Int) ∧ (bodyT i m ++ r).drop (digN (bodyT i m ++ r)) = unitB i ++ r := by
  unfold bodyT
  by_cases h1 : 0 < i ∧ m = 1
  · rw [if_pos h1, List.nil_append]
    unfold rNum
    rw [digN_unitR i h, if_pos rfl, h1.2]
    exact ⟨rfl, rfl⟩
  · rw [if_neg h1, List.append_assoc]
    have e1 : digN (Lib.decDigits m ++ (unitB i ++ r)) = (Lib.decDigits m).length := digN_append (decDigits_isD m) (digN_unitR i h)
    have e3 : 0 < (Lib.decDigits m).length := List.length_pos_iff.2 (decDigits_ne m)
    have e4 := capV_digits (Lib.decDigits m) (unitB i ++ r) (digN_unitR i h) 0 (decDigits_isD m) (by rw [decV_decDigits]; omega)
    unfold rNum
    rw [e1, if_neg (by omega), List.drop_left, e4, decV_decDigits]
    exact ⟨rfl, rfl⟩
theorem rTerm_of {s : Int} {i m : Nat} (hi : i < 4) (hm : m ≤ 1073741824) {q r : List UInt8} (h : endsR r = true) (hs : termSign q = (s, bodyT i m ++ r)) : rTerm q = (i, s * m, r) := by
  obtain ⟨h1, h2⟩ := rNum_body i m hm h
  unfold rTerm
  rw [hs]
  dsimp only
  rw [h2, rUnit_unit i hi h, h1]
theorem tlT_endsR (cs : List (Nat × Int)) {t : List UInt8} (ht : t = [] ∨ ∃ u, t = 41 :: u) : endsR (tlT cs ++ t) = true := by
  induction cs with
  | nil => rcases ht with rfl | ⟨u, rfl⟩ <;> rfl
  | cons x r ih =>
    obtain ⟨i, c⟩ := x
    unfold tlT
    by_cases h : c = 0
    · rw [if_pos h]; exact ih
    · rw [if_neg h]
      by_cases h2 : c < 0
      · rw [if_pos h2]; rfl
      · rw [if_neg h2]; rfl
theorem len_pos_body (i m : Nat) (r : List UInt8) : r.length < (bodyT i m ++ r).length := by
  obtain ⟨b, l, e, _, _⟩ := bodyT_head i m (.inr trivial) []
  rw [List.append_nil] at e
  rw [e]
  simp
  omega
theorem drop_suffix {l X Y : List UInt8} {a : Nat} (h : l.drop a = X ++ Y) : l.drop (l.length - Y.length) = Y := by
  have e : l = (l.take a ++ X) ++ Y := by rw [List.append_assoc, ← h, List.take_append_drop]
  have e2 : l.length = (l.take a ++ X).length + Y.length := by
    have := congrArg List.length e
    rwa [List.length_append] at this
  rw [show l.length - Y.length = (l.take a ++ X).length by omega]
  generalize l.take a ++ X = Z at e
  rw [e, List.drop_left]
theorem run_tl (l : List UInt8) (hl : l.length ≤ 1000000) (t : List UInt8) (ht : t = [] ∨ ∃ u, t = 41 :: u) (cs : List (Nat × Int)) :
    ∀ (n a : Nat) (P : Pt), l.length ≤ n → goodC cs → l.drop a = tlT cs ++ t → a ≤ l.length →
      ∃ m, n ≤ m ∧ spoondriftref01_Parse.l0 (8 * cs.length + n) (bs l) a P.a P.b P.c P.d 0 = spoondriftref01_Parse.l0 m (bs l) ((l.length - t.length : Nat) : Int) (foldP P cs).a (foldP P cs).b (foldP P cs).c (foldP P cs).d 0 := by
  induction cs with
  | nil =>
    intro n a P _ _ hd ha
    refine ⟨n, Nat.le_refl _, ?_⟩
    have : a = l.length - t.length := drop_len hd ha
    rw [← this, List.length_nil, Nat.mul_zero, Nat.zero_add]
    rfl
  | cons x r ih =>
    intro n a P hn hg hd ha
    obtain ⟨i, c⟩ := x
    obtain ⟨g1, g2, g3⟩ := hg (i, c) (by simp)
    have hgr : goodC r := fun y hy => hg y (by simp [hy])
    dsimp only at g1 g2 g3
    rw [List.length_cons]
    unfold tlT at hd
    unfold foldP
    by_cases h : c = 0
    · rw [if_pos h] at hd ⊢
      obtain ⟨m, h1, h2⟩ := ih (n + 8) a P (by omega) hgr hd ha
      exact ⟨m, by omega, by rw [show 8 * (r.length + 1) + n = 8 * r.length + (n + 8) by omega]; exact h2⟩
    · rw [if_neg h] at hd ⊢
      have he := tlT_endsR r ht
      have hlen := congrArg List.length hd
      rw [List.length_drop, List.cons_append, List.append_assoc, List.length_cons] at hlen
      have hlb := len_pos_body i c.natAbs (tlT r ++ t)
      have key : ∀ s : Int, rTerm (l.drop a) = (i, c, tlT r ++ t) → (∃ b r0, l.drop a = b :: r0 ∧ b ≠ 41) →
          ∃ m, n ≤ m ∧ spoondriftref01_Parse.l0 (8 * (r.length + 1) + n) (bs l) a P.a P.b P.c P.d 0 = spoondriftref01_Parse.l0 m (bs l) ((l.length - t.length : Nat) : Int) (foldP (putP P i c) r).a (foldP (putP P i c) r).b (foldP (putP P i c) r).c (foldP (putP P i c) r).d 0 := by
        rintro _ hr ⟨b, r0, hdr, hb⟩
        rw [show 8 * (r.length + 1) + n = (8 * r.length + n) + 8 by omega, step_eq _ l hl (by omega) a b r0 hdr hb P 0, hr]
        dsimp only
        rw [if_neg (by rw [List.length_drop]; omega)]
        have hX : ∃ X, l.drop a = X ++ (tlT r ++ t) := ⟨(if c < 0 then 45 else 43) :: bodyT i c.natAbs, by rw [hd]; simp⟩
        obtain ⟨X, hX⟩ := hX
        exact ih n _ _ hn hgr (drop_suffix hX) (by omega)
      by_cases h2 : c < 0
      · rw [if_pos h2] at hd
        refine key (-1) ?_ ⟨45, _, hd, by decide⟩
        rw [hd]
        have := rTerm_of (s := -1) (i := i) (m := c.natAbs) (q := 45 :: (bodyT i c.natAbs ++ tlT r) ++ t) (r := tlT r ++ t) g1 (by omega) he (by simp [termSign])
        rw [this]
        congr 2
        omega
      · rw [if_neg h2] at hd
        refine key 1 ?_ ⟨43, _, hd, by decide⟩
        rw [hd]
        have := rTerm_of (s := 1) (i := i) (m := c.natAbs) (q := 43 :: (bodyT i c.natAbs ++ tlT r) ++ t) (r := tlT r ++ t) g1 (by omega) he (by simp [termSign])
        rw [this]
        congr 2
        omega
theorem run_tf (l : List UInt8) (hl : l.length ≤ 1000000) (t : List UInt8) (ht : t = [] ∨ ∃ u, t = 41 :: u) (cs : List (Nat × Int)) :
    ∀ (n a : Nat) (P : Pt), l.length ≤ n → goodC cs → l.drop a = tfT cs ++ t → a ≤ l.length →
      ∃ m, n ≤ m ∧ spoondriftref01_Parse.l0 (8 * cs.length + n) (bs l) a P.a P.b P.c P.d 0 = spoondriftref01_Parse.l0 m (bs l) ((l.length - t.length : Nat) : Int) (foldP P cs).a (foldP P cs).b (foldP P cs).c (foldP P cs).d 0 := by
  induction cs with
  | nil => exact run_tl l hl t ht []
  | cons x r ih =>
    intro n a P hn hg hd ha
    obtain ⟨i, c⟩ := x
    obtain ⟨g1, g2, g3⟩ := hg (i, c) (by simp)
    have hgr : goodC r := fun y hy => hg y (by simp [hy])
    dsimp only at g1 g2 g3
    rw [List.length_cons]
    unfold tfT at hd
    unfold foldP
    by_cases h : c = 0
    · rw [if_pos h] at hd ⊢
      obtain ⟨m, h1, h2⟩ := ih (n + 8) a P (by omega) hgr hd ha
      exact ⟨m, by omega, by rw [show 8 * (r.length + 1) + n = 8 * r.length + (n + 8) by omega]; exact h2⟩
    · rw [if_neg h] at hd ⊢
      have he := tlT_endsR r ht
      have hlb := len_pos_body i c.natAbs (tlT r ++ t)
      have key : (∃ X, l.drop a = X ++ (tlT r ++ t) ∧ 0 < X.length) → rTerm (l.drop a) = (i, c, tlT r ++ t) → (∃ b r0, l.drop a = b :: r0 ∧ b ≠ 41) →
          ∃ m, n ≤ m ∧ spoondriftref01_Parse.l0 (8 * (r.length + 1) + n) (bs l) a P.a P.b P.c P.d 0 = spoondriftref01_Parse.l0 m (bs l) ((l.length - t.length : Nat) : Int) (foldP (putP P i c) r).a (foldP (putP P i c) r).b (foldP (putP P i c) r).c (foldP (putP P i c) r).d 0 := by
        rintro ⟨X, hX, hX0⟩ hr ⟨b, r0, hdr, hb⟩
        have hlen := congrArg List.length hX
        rw [List.length_drop, List.length_append] at hlen
        rw [show 8 * (r.length + 1) + n = (8 * r.length + n) + 8 by omega, step_eq _ l hl (by omega) a b r0 hdr hb P 0, hr]
        dsimp only
        rw [if_neg (by rw [List.length_drop]; omega)]
        exact run_tl l hl t ht r n _ _ hn hgr (drop_suffix hX) (by omega)
      by_cases h2 : c < 0
      · rw [if_pos h2] at hd
        refine key ⟨45 :: bodyT i c.natAbs, by rw [hd]; simp, by simp⟩ ?_ ⟨45, _, hd, by decide⟩
        rw [hd]
        have := rTerm_of (s := -1) (i := i) (m := c.natAbs) (q := 45 :: (bodyT i c.natAbs ++ tlT r) ++ t) (r := tlT r ++ t) g1 (by omega) he (by simp [termSign])
        rw [this]
        congr 2
        omega
      · rw [if_neg h2, List.append_assoc] at hd
        obtain ⟨b, u, e1, e2, e3⟩ := bodyT_head i c.natAbs (.inr trivial) (tlT r ++ t)
        have hs : termSign (bodyT i c.natAbs ++ (tlT r ++ t)) = (1, bodyT i c.natAbs ++ (tlT r ++ t)) := by
          rw [e1]; unfold termSign; simp only [if_neg e2, if_neg e3]
        have hb41 : b ≠ 41 := by
          obtain ⟨b', u', e1', _, _⟩ := bodyT_head i c.natAbs (.inr trivial) []
          rw [List.append_nil] at e1'
          have hin := bodyT_in i c.natAbs b' (by rw [e1']; simp)
          have : b' = b := by rw [e1'] at e1; injection e1
          subst this
          rintro rfl
          simp [inT, isD] at hin
        have hX0 : 0 < (bodyT i c.natAbs).length := by
          have h5 := len_pos_body i c.natAbs []
          rw [List.append_nil] at h5
          exact h5
        refine key ⟨bodyT i c.natAbs, hd, hX0⟩ ?_ ⟨b, u, by rw [hd, e1], hb41⟩
        rw [hd]
        have := rTerm_of (s := 1) (i := i) (m := c.natAbs) (r := tlT r ++ t) g1 (by omega) he hs
        rw [this]
        congr 2
        omega
theorem finK_nil {l : List UInt8} {a : Nat} (h : l.length ≤ a) : finK l a = 0 := by
  unfold finK; rw [if_neg (by omega)]
theorem ref_text {x : Nm} (hg : good x) (n : Nat) (hn : (textB x).length + 200 ≤ n) : ∃ a : Nat, (a = if Lib.hasPrefix (textB x) [40] then 1 else 0) ∧
    spoondriftref01_Parse.l0 n (bs (textB x)) a 0 0 0 0 0 = some (flatN (x, 0)) := by
  obtain ⟨hc, hr⟩ := id hg
  obtain ⟨hp, hk0, hk1⟩ := Nm.chk_ok hc
  have hlx : lf x = x := hr
  have hfold := foldP_csOf x.p
  have hgc := csOf_good hp
  have htl : (termsN x.p 4).length ≤ 92 := terms_len hp
  have hin : ∀ b ∈ termsN x.p 4, inT b = true := by rw [termsN_eq]; exact tfT_in _
  have hz := @terms_zero x.p hp
  have hrx := readX_text hg
  have hfin : ∀ (l : List UInt8) (m a : Nat), l = textB x → l.length ≤ 1000000 → l.length + 103 ≤ m → a ≤ l.length → (∀ b r, l.drop a = b :: r → b = 41) → (finK l a : Int) = x.k →
      spoondriftref01_Parse.l0 m (bs l) a x.p.a x.p.b x.p.c x.p.d 0 = some (flatN (x, 0)) := by
    intro l m a hl h1 h2 h3 h4 h5
    rw [show m = ((m - 3) + 1) + 2 by omega, fin_eq _ l h1 (by omega) a h3 h4, h5]
    have := j10_eq (m - 3) (by omega) l x
    rw [if_pos ⟨hc, hlx, hl.symm⟩] at this
    exact this
  unfold textB at hn ⊢
  by_cases h0 : termsN x.p 4 = []
  · rw [if_pos h0] at hn ⊢
    have hx0 := hz h0
    have e2 : x.k = 0 := by
      rw [hx0, Pt.red_zero] at hr
      exact (congrArg Nm.k hr).symm
    refine ⟨0, rfl, ?_⟩
    have ht : [48] = textB x := by unfold textB; rw [if_pos h0]
    simp only [List.length_cons, List.length_nil] at hn
    have hs := step_eq (n - 8) [48] (by simp) (by simp; omega) 0 48 [] rfl (by decide) Pt.zero 0
    have hrt : rTerm ([48].drop 0) = (0, 0, []) := by decide
    rw [hrt] at hs
    rw [show n - 8 + 8 = n by omega] at hs
    refine hs.trans ?_
    rw [if_neg (by decide)]
    have := hfin [48] (n - 8) 1 ht (by simp) (by simp; omega) (by simp) (by intro b r h; simp at h) (by rw [finK_nil (by simp), e2]; rfl)
    rw [hx0] at this
    exact this
  rw [if_neg h0] at hn ⊢
  by_cases h1 : x.k = 0
  · rw [if_pos h1] at hn ⊢
    have hT : termsN x.p 4 = textB x := by unfold textB; rw [if_neg h0, if_pos h1]
    have e : Lib.hasPrefix (termsN x.p 4) [40] = false := by
      cases hc2 : termsN x.p 4 with
      | nil => exact absurd hc2 h0
      | cons b r =>
        have := hin b (by rw [hc2]; simp)
        have hne : b ≠ 40 := fun e => by rw [e] at this; simp [inT, isD] at this
        show ([40] : List UInt8).isPrefixOf (b :: r) = false
        have : ((40 : UInt8) == b) = false := by rw [beq_eq_false_iff_ne]; exact fun e => hne e.symm
        simp [List.isPrefixOf, this]
    rw [e]
    refine ⟨0, rfl, ?_⟩
    obtain ⟨m, hm, hrun⟩ := run_tf (termsN x.p 4) (by omega) [] (.inl rfl) (csOf x.p) (n - 32) 0 Pt.zero (by omega) hgc (by rw [termsN_eq]; simp) (by omega)
    rw [show 8 * (csOf x.p).length + (n - 32) = n by show 8 * 4 + (n - 32) = n; omega] at hrun
    refine hrun.trans ?_
    rw [hfold]
    refine hfin _ m _ hT (by omega) (by omega) (by omega) ?_ ?_
    · intro b r h; rw [List.drop_of_length_le (by simp)] at h; cases h
    · rw [finK_nil (by simp), h1]; rfl
  · rw [if_neg h1] at hn ⊢
    have hT : (([40] ++ termsN x.p 4) ++ [41, 47, 114]) ++ Lib.itoa x.k = textB x := by unfold textB; rw [if_neg h0, if_neg h1]
    have e2 : Lib.itoa x.k = Lib.decDigits x.k.toNat := by unfold Lib.itoa; rw [if_neg (by omega)]
    have e5 : (Lib.decDigits x.k.toNat).length ≤ 2 := by
      rw [Lib.decDigits_length]
      exact nDigits_le 1 _ (by have : (10 : Nat) ^ (1 + 1) = 100 := by decide
                               omega)
    have e6 : 0 < (Lib.decDigits x.k.toNat).length := List.length_pos_iff.2 (decDigits_ne _)
    rw [e2] at hn hT ⊢
    have e1 : (([40] ++ termsN x.p 4) ++ [41, 47, 114]) ++ Lib.decDigits x.k.toNat = 40 :: (termsN x.p 4 ++ (41 :: (47 :: 114 :: Lib.decDigits x.k.toNat))) := by simp
    rw [e1] at hn hT ⊢
    have e3 : Lib.hasPrefix (40 :: (termsN x.p 4 ++ (41 :: (47 :: 114 :: Lib.decDigits x.k.toNat)))) [40] = true := rfl
    rw [e3]
    refine ⟨1, rfl, ?_⟩
    generalize hl : 40 :: (termsN x.p 4 ++ (41 :: (47 :: 114 :: Lib.decDigits x.k.toNat))) = l at *
    have hlen : l.length = (termsN x.p 4).length + (Lib.decDigits x.k.toNat).length + 4 := by rw [← hl]; simp; omega
    obtain ⟨m, hm, hrun⟩ := run_tf l (by omega) (41 :: (47 :: 114 :: Lib.decDigits x.k.toNat)) (.inr ⟨_, rfl⟩) (csOf x.p) (n - 32) 1 Pt.zero (by omega) hgc (by rw [← hl, termsN_eq]; rfl) (by omega)
    rw [show 8 * (csOf x.p).length + (n - 32) = n by show 8 * 4 + (n - 32) = n; omega] at hrun
    refine hrun.trans ?_
    rw [hfold]
    have hdr : l.drop (l.length - (41 :: (47 :: 114 :: Lib.decDigits x.k.toNat)).length) = 41 :: (47 :: 114 :: Lib.decDigits x.k.toNat) :=
      drop_suffix (a := 0) (X := 40 :: termsN x.p 4) (by rw [← hl]; simp)
    have hdr3 : l.drop (l.length - (41 :: (47 :: 114 :: Lib.decDigits x.k.toNat)).length + 3) = Lib.decDigits x.k.toNat := by
      rw [← List.drop_drop, hdr]; rfl
    refine hfin _ m _ hT (by omega) (by omega) (by omega) ?_ ?_
    · intro b r h; rw [hdr] at h; injection h with h _; exact h.symm
    · unfold finK
      rw [if_pos (by simp only [List.length_cons]; omega), hdr3]
      have := capV_digits (Lib.decDigits x.k.toNat) [] rfl 0 (decDigits_isD _) (by rw [decV_decDigits]; omega)
      rw [List.append_nil] at this
      rw [this, decV_decDigits]
      omega
theorem ends_sParse {l : List UInt8} {r : Int × Int × Int × Int × Int × Int} (h : Ends l r) (hn : (∃ x, good x ∧ textB x = l) → ∃ x, good x ∧ textB x = l ∧ r = flatN (x, 0)) : r = flatN (sParse l) := by
  by_cases hx : ∃ x, good x ∧ textB x = l
  · obtain ⟨x, g, rfl, hr⟩ := hn hx
    rw [hr, sParse_text g]
  · rw [sParse_none (fun x g e => hx ⟨x, g, e⟩)]
    rcases h with h | ⟨x, g, e, _⟩
    · exact h
    · exact absurd ⟨x, g, e⟩ hx
theorem Parse_eq (n : Nat) (l : List UInt8) (hl : l.length ≤ 1000000) (hn : 9 * l.length + 312 ≤ n) : spoondriftref01_Parse.f n (bs l) = some (flatN (sParse l)) := by
  obtain ⟨m, rfl⟩ : ∃ m, n = (m + 1) + 1 := ⟨n - 2, by omega⟩
  have hstart : spoondriftref01_Parse.f (m + 1 + 1) (bs l) = spoondriftref01_Parse.l0 m (bs l) ((if Lib.hasPrefix l [40] then 1 else 0 : Nat) : Int) 0 0 0 0 0 := by
    have e1 : (bs l).toList = l := by simp [bs, ByteArray.toList_eq]
    unfold spoondriftref01_Parse.f
    rw [e1]
    cases l with
    | nil =>
      rw [if_pos rfl, spoondriftref01_Parse.j0, if_neg (by decide), spoondriftref01_Parse.j1]
      rfl
    | cons b r =>
      rw [if_neg (by simp), if_pos (by rw [bs_size]; simp), spoondriftref01_Parse.j0]
      have hbt := bt_bs (b :: r) 0 (by simp)
      rw [show (((0 : Nat) : Int)) = 0 from rfl] at hbt
      rw [hbt]
      show (if ((b.toNat : Int) == 40) = true then _ else _) = _
      have hp : Lib.hasPrefix (b :: r) [40] = ((40 : UInt8) == b) := by show ([40] : List UInt8).isPrefixOf (b :: r) = _; simp [List.isPrefixOf]
      by_cases h40 : b = 40
      · subst h40
        rw [if_pos (by rfl), spoondriftref01_Parse.j1]
        rfl
      · have h1 : ¬ (((b.toNat : Int) == 40) = true) := by rw [beq_iff_eq]; exact fun h => h40 ((nat_toNat_eq (n := 40) (by omega)).1 h)
        have h2 : ((40 : UInt8) == b) = false := by rw [beq_eq_false_iff_ne]; exact fun e => h40 e.symm
        rw [if_neg h1, spoondriftref01_Parse.j1, hp, h2]
        rfl
  rw [hstart]
  have hmono : ∀ (j k : Nat) (z0 : ByteArray) (z1 z2 z3 z4 z5 z6 : Int) r, spoondriftref01_Parse.l0 j z0 z1 z2 z3 z4 z5 z6 = some r → spoondriftref01_Parse.l0 (j + k) z0 z1 z2 z3 z4 z5 z6 = some r := by
    intro j k z0 z1 z2 z3 z4 z5 z6 r h
    induction k with
    | zero => exact h
    | succ k ih =>
      exact (spoondriftref01_Parse.mono_l (j + k)).2.2.1 _ _ _ _ _ _ _ _ ih
  generalize ha : (if Lib.hasPrefix l [40] then 1 else 0 : Nat) = a
  have ha2 : a ≤ l.length := by
    rw [← ha]
    split
    · rename_i h
      have := (List.isPrefixOf_iff_prefix.1 h).length_le
      simpa using this
    · omega
  obtain ⟨r, hr, he⟩ := ends_any l hl (l.length - a) a Pt.zero ha2 (by simp)
  have hr2 := hmono _ (m - (8 * (l.length - a) + (l.length + 110))) _ _ _ _ _ _ _ _ hr
  rw [show 8 * (l.length - a) + (l.length + 110) + (m - (8 * (l.length - a) + (l.length + 110))) = m by omega] at hr2
  refine hr2.trans (congrArg some (ends_sParse he ?_))
  rintro ⟨x, g, rfl⟩
  obtain ⟨a', ha', h3⟩ := ref_text g m (by omega)
  rw [ha] at ha'
  subst ha'
  refine ⟨x, g, rfl, ?_⟩
  have := hr2.symm.trans h3
  exact Option.some.inj this
theorem RingTexts_pure (x : Nm) (s : ByteArray) : spoondriftlaw01_RingTexts.f 2500 x.p.a x.p.b x.p.c x.p.d x.k s = some true := by
  unfold spoondriftlaw01_RingTexts.f
  by_cases h : (s.size : Int) > 200
  · rw [if_pos h]; rfl
  · rw [if_neg h]
    have e : s = bs s.data.toList := rfl
    have hl : s.data.toList.length ≤ 200 := by
      have : s.size = s.data.toList.length := by rw [Array.length_toList]; rfl
      omega
    have h2 : spoondriftref01_Parse.f 2500 s = some (flatN (sParse s.data.toList)) := Parse_eq 2500 s.data.toList (by omega) (by omega)
    have h3 : ring_Print.f x.p.a x.p.b x.p.c x.p.d x.k = some (bs (sPrint x).1, (sPrint x).2) := rfl
    have h4 : ring_Parse.f s = some (flatN (sParse s.data.toList)) := by unfold ring_Parse.f; rw [if_pos (by omega)]
    rw [Print_eq 2500 (by omega), h2, h3, h4]
    simp [spoondriftlaw01_awake.f]
end Go.Proofs.YtlglmooknlmomaaDoor
end
