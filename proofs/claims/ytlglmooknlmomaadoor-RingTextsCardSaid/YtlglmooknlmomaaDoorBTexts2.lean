import Derived.Test.YtlglmooknlmomaaDoorBTexts0
import Derived.Test.YtlglmooknlmomaaDoorBTexts1
set_option linter.all false
section
namespace Go.Proofs.YtlglmooknlmomaaDoorPR
open Go.RowKit Go.Proofs.YtlglmooknlmomaaDoor.Inj Go.Proofs.YtlglmooknlmomaaDoorW.PrintWords Go.Proofs.YtlglmooknlmomaaDoorW.PrintLast Go.Proofs.YtlglmooknlmomaaDoorW.PrintMore
attribute [local go_sem] max2_int min2_int max_two min_two max_three min_three max_four min_four
set_option linter.unusedVariables false
set_option linter.unusedSimpArgs false
def spoondriftref01_text.l0 : Nat → ByteArray → List Int → Int → Int → Int → Int → Int → Int → Option (ByteArray)
  | 0, _, _, _, _, _, _, _, _ => none
  | k + 1, x3, x4, x5, x172000, x172001, x172002, x172003, x172004 => if x5 < 4 then (if 0 ≤ x5 then (if x5 < (x4.length : Int) then (if (rd x4 x5) = 0 then (spoondriftref01_text.l0 k x3 x4 (wrap64 (x5 + 1)) x172000 x172001 x172002 x172003 x172004) else (if (rd x4 x5) < 0 then (if x3.size + 1 ≤ 9223372036854775807 then (if (wrap64 (-(rd x4 x5))) = 1 then (if x5 = 0 then ((spoondriftref01_digits.f k (wrap64 (-(rd x4 x5)))).bind fun t178 => (if (x3 ++ (⟨#[45]⟩ : ByteArray)).size + t178.size ≤ 9223372036854775807 then ((some (([(⟨#[]⟩ : ByteArray), (⟨#[119]⟩ : ByteArray), (⟨#[119, 50]⟩ : ByteArray), (⟨#[119, 51]⟩ : ByteArray)] : List ByteArray) : List ByteArray)).bind fun y179 => (if x5 < (y179.length : Int) then (if ((x3 ++ (⟨#[45]⟩ : ByteArray)) ++ t178).size + (rdOf ByteArray.empty y179 x5).size ≤ 9223372036854775807 then (spoondriftref01_text.l0 k (((x3 ++ (⟨#[45]⟩ : ByteArray)) ++ t178) ++ (rdOf ByteArray.empty y179 x5)) x4 (wrap64 (x5 + 1)) x172000 x172001 x172002 x172003 x172004) else (none)) else (none))) else (none))) else ((some (([(⟨#[]⟩ : ByteArray), (⟨#[119]⟩ : ByteArray), (⟨#[119, 50]⟩ : ByteArray), (⟨#[119, 51]⟩ : ByteArray)] : List ByteArray) : List ByteArray)).bind fun y183 => (if x5 < (y183.length : Int) then (if (x3 ++ (⟨#[45]⟩ : ByteArray)).size + (rdOf ByteArray.empty y183 x5).size ≤ 9223372036854775807 then (spoondriftref01_text.l0 k ((x3 ++ (⟨#[45]⟩ : ByteArray)) ++ (rdOf ByteArray.empty y183 x5)) x4 (wrap64 (x5 + 1)) x172000 x172001 x172002 x172003 x172004) else (none)) else (none)))) else ((spoondriftref01_digits.f k (wrap64 (-(rd x4 x5)))).bind fun t187 => (if (x3 ++ (⟨#[45]⟩ : ByteArray)).size + t187.size ≤ 9223372036854775807 then ((some (([(⟨#[]⟩ : ByteArray), (⟨#[119]⟩ : ByteArray), (⟨#[119, 50]⟩ : ByteArray), (⟨#[119, 51]⟩ : ByteArray)] : List ByteArray) : List ByteArray)).bind fun y188 => (if x5 < (y188.length : Int) then (if ((x3 ++ (⟨#[45]⟩ : ByteArray)) ++ t187).size + (rdOf ByteArray.empty y188 x5).size ≤ 9223372036854775807 then (spoondriftref01_text.l0 k (((x3 ++ (⟨#[45]⟩ : ByteArray)) ++ t187) ++ (rdOf ByteArray.empty y188 x5)) x4 (wrap64 (x5 + 1)) x172000 x172001 x172002 x172003 x172004) else (none)) else (none))) else (none)))) else (none)) else (if x3.toList = ([] : List UInt8) then (if (rd x4 x5) = 1 then (if x5 = 0 then ((spoondriftref01_digits.f k (rd x4 x5)).bind fun t192 => (if x3.size + t192.size ≤ 9223372036854775807 then ((some (([(⟨#[]⟩ : ByteArray), (⟨#[119]⟩ : ByteArray), (⟨#[119, 50]⟩ : ByteArray), (⟨#[119, 51]⟩ : ByteArray)] : List ByteArray) : List ByteArray)).bind fun y193 => (if x5 < (y193.length : Int) then (if (x3 ++ t192).size + (rdOf ByteArray.empty y193 x5).size ≤ 9223372036854775807 then (spoondriftref01_text.l0 k ((x3 ++ t192) ++ (rdOf ByteArray.empty y193 x5)) x4 (wrap64 (x5 + 1)) x172000 x172001 x172002 x172003 x172004) else (none)) else (none))) else (none))) else ((some (([(⟨#[]⟩ : ByteArray), (⟨#[119]⟩ : ByteArray), (⟨#[119, 50]⟩ : ByteArray), (⟨#[119, 51]⟩ : ByteArray)] : List ByteArray) : List ByteArray)).bind fun y197 => (if x5 < (y197.length : Int) then (if x3.size + (rdOf ByteArray.empty y197 x5).size ≤ 9223372036854775807 then (spoondriftref01_text.l0 k (x3 ++ (rdOf ByteArray.empty y197 x5)) x4 (wrap64 (x5 + 1)) x172000 x172001 x172002 x172003 x172004) else (none)) else (none)))) else ((spoondriftref01_digits.f k (rd x4 x5)).bind fun t201 => (if x3.size + t201.size ≤ 9223372036854775807 then ((some (([(⟨#[]⟩ : ByteArray), (⟨#[119]⟩ : ByteArray), (⟨#[119, 50]⟩ : ByteArray), (⟨#[119, 51]⟩ : ByteArray)] : List ByteArray) : List ByteArray)).bind fun y202 => (if x5 < (y202.length : Int) then (if (x3 ++ t201).size + (rdOf ByteArray.empty y202 x5).size ≤ 9223372036854775807 then (spoondriftref01_text.l0 k ((x3 ++ t201) ++ (rdOf ByteArray.empty y202 x5)) x4 (wrap64 (x5 + 1)) x172000 x172001 x172002 x172003 x172004) else (none)) else (none))) else (none)))) else (if x3.size + 1 ≤ 9223372036854775807 then (if (rd x4 x5) = 1 then (if x5 = 0 then ((spoondriftref01_digits.f k (rd x4 x5)).bind fun t206 => (if (x3 ++ (⟨#[43]⟩ : ByteArray)).size + t206.size ≤ 9223372036854775807 then ((some (([(⟨#[]⟩ : ByteArray), (⟨#[119]⟩ : ByteArray), (⟨#[119, 50]⟩ : ByteArray), (⟨#[119, 51]⟩ : ByteArray)] : List ByteArray) : List ByteArray)).bind fun y207 => (if x5 < (y207.length : Int) then (if ((x3 ++ (⟨#[43]⟩ : ByteArray)) ++ t206).size + (rdOf ByteArray.empty y207 x5).size ≤ 9223372036854775807 then (spoondriftref01_text.l0 k (((x3 ++ (⟨#[43]⟩ : ByteArray)) ++ t206) ++ (rdOf ByteArray.empty y207 x5)) x4 (wrap64 (x5 + 1)) x172000 x172001 x172002 x172003 x172004) else (none)) else (none))) else (none))) else ((some (([(⟨#[]⟩ : ByteArray), (⟨#[119]⟩ : ByteArray), (⟨#[119, 50]⟩ : ByteArray), (⟨#[119, 51]⟩ : ByteArray)] : List ByteArray) : List ByteArray)).bind fun y211 => (if x5 < (y211.length : Int) then (if (x3 ++ (⟨#[43]⟩ : ByteArray)).size + (rdOf ByteArray.empty y211 x5).size ≤ 9223372036854775807 then (spoondriftref01_text.l0 k ((x3 ++ (⟨#[43]⟩ : ByteArray)) ++ (rdOf ByteArray.empty y211 x5)) x4 (wrap64 (x5 + 1)) x172000 x172001 x172002 x172003 x172004) else (none)) else (none)))) else ((spoondriftref01_digits.f k (rd x4 x5)).bind fun t215 => (if (x3 ++ (⟨#[43]⟩ : ByteArray)).size + t215.size ≤ 9223372036854775807 then ((some (([(⟨#[]⟩ : ByteArray), (⟨#[119]⟩ : ByteArray), (⟨#[119, 50]⟩ : ByteArray), (⟨#[119, 51]⟩ : ByteArray)] : List ByteArray) : List ByteArray)).bind fun y216 => (if x5 < (y216.length : Int) then (if ((x3 ++ (⟨#[43]⟩ : ByteArray)) ++ t215).size + (rdOf ByteArray.empty y216 x5).size ≤ 9223372036854775807 then (spoondriftref01_text.l0 k (((x3 ++ (⟨#[43]⟩ : ByteArray)) ++ t215) ++ (rdOf ByteArray.empty y216 x5)) x4 (wrap64 (x5 + 1)) x172000 x172001 x172002 x172003 x172004) else (none)) else (none))) else (none)))) else (none))))) else (none)) else (none)) else (if x172004 > 0 then (if 1 + x3.size ≤ 9223372036854775807 then (if ((⟨#[40]⟩ : ByteArray) ++ x3).size + 3 ≤ 9223372036854775807 then ((spoondriftref01_digits.f k x172004).bind fun t176 => (if (((⟨#[40]⟩ : ByteArray) ++ x3) ++ (⟨#[41, 47, 114]⟩ : ByteArray)).size + t176.size ≤ 9223372036854775807 then (some ((((⟨#[40]⟩ : ByteArray) ++ x3) ++ (⟨#[41, 47, 114]⟩ : ByteArray)) ++ t176)) else (none))) else (none)) else (none)) else (some x3))
def spoondriftref01_text.f (k : Nat) (a0_0 : Int) (a0_1 : Int) (a0_2 : Int) (a0_3 : Int) (a0_4 : Int) : Option (ByteArray) := (spoondriftref01_zero.f a0_0 a0_1 a0_2 a0_3 a0_4).bind fun t172 => (if t172 = true then (some (⟨#[48]⟩ : ByteArray)) else (spoondriftref01_text.l0 k (⟨#[]⟩ : ByteArray) (([a0_0, a0_1, a0_2, a0_3] : List Int)) 0 a0_0 a0_1 a0_2 a0_3 a0_4))
theorem spoondriftref01_text.mono_l : ∀ k, (∀ y0 y1 y2 y3 y4 y5 y6 y7, LeO (spoondriftref01_text.l0 k y0 y1 y2 y3 y4 y5 y6 y7) (spoondriftref01_text.l0 (k + 1) y0 y1 y2 y3 y4 y5 y6 y7))
  | 0 => fun _ _ _ _ _ _ _ _ r h => by simp [spoondriftref01_text.l0] at h
  | k + 1 => by
    have ih0 := spoondriftref01_text.mono_l k
    · intro y0 y1 y2 y3 y4 y5 y6 y7
      unfold spoondriftref01_text.l0
      repeat' first
      | (with_reducible exact ih0 _ _ _ _ _ _ _ _)
      | (with_reducible exact spoondriftref01_digits.mono _ _)
      | (with_reducible exact LeO.refl _)
      | (with_reducible exact LeO.none _)
      | (with_reducible refine LeO.ite ?_ ?_)
      | (with_reducible refine LeO.bind ?_ (fun _ => ?_))
      | exact ih0 _ _ _ _ _ _ _ _
      | exact spoondriftref01_digits.mono _ _
      | exact LeO.none _
      | refine LeO.ite ?_ ?_
      | refine LeO.bind ?_ (fun _ => ?_)
theorem spoondriftref01_text.mono : ∀ a0 a1 a2 a3 a4 k, LeO (spoondriftref01_text.f k a0 a1 a2 a3 a4) (spoondriftref01_text.f (k + 1) a0 a1 a2 a3 a4) := by
  intro a0 a1 a2 a3 a4 k
  have ih0 := spoondriftref01_text.mono_l k
  unfold spoondriftref01_text.f
  repeat' first
      | (with_reducible exact ih0 _ _ _ _ _ _ _ _)
      | (with_reducible exact spoondriftref01_digits.mono _ _)
      | (with_reducible exact LeO.refl _)
      | (with_reducible exact LeO.none _)
      | (with_reducible refine LeO.ite ?_ ?_)
      | (with_reducible refine LeO.bind ?_ (fun _ => ?_))
      | exact ih0 _ _ _ _ _ _ _ _
      | exact spoondriftref01_digits.mono _ _
      | exact LeO.none _
      | refine LeO.ite ?_ ?_
      | refine LeO.bind ?_ (fun _ => ?_)
set_option maxHeartbeats 8000000 in
set_option maxRecDepth 100000 in
theorem spoondriftref01_text.calls (k : Nat) (a0_0 : Int) (a0_1 : Int) (a0_2 : Int) (a0_3 : Int) (a0_4 : Int) (r : ByteArray) (w : World) (h : spoondriftref01_text.f k a0_0 a0_1 a0_2 a0_3 a0_4 = some r) :
    Calls Tryd.prog 61 #[.agg #[.int .i64 a0_0, .int .i64 a0_1, .int .i64 a0_2, .int .i64 a0_3, .int .i64 a0_4]] w fun e w' => e = .returned (.string r) ∧ Below w.heap.size w w' := by
  have hu23 := Tryd.underlying23
  have HB := Aside0.mk (Below.refl w.heap.size w)
  have H : ((spoondriftref01_zero.f a0_0 a0_1 a0_2 a0_3 a0_4).bind fun t172 => (if t172 = true then (some (⟨#[48]⟩ : ByteArray)) else (spoondriftref01_text.l0 k (⟨#[]⟩ : ByteArray) (([a0_0, a0_1, a0_2, a0_3] : List Int)) 0 a0_0 a0_1 a0_2 a0_3 a0_4))) = some r := h
  clear h
  replace H := Option.bind_eq_some_iff.mp H
  obtain ⟨t172, A20, H⟩ := H
  replace H : (if t172 = true then (some (⟨#[48]⟩ : ByteArray)) else (spoondriftref01_text.l0 k (⟨#[]⟩ : ByteArray) (([a0_0, a0_1, a0_2, a0_3] : List Int)) 0 a0_0 a0_1 a0_2 a0_3 a0_4)) = some r := H
  have A2 := Aside0.mk A20
  clear A20
  by_cases c3 : t172 = true
  · subst c3
    have H1 : (some (⟨#[48]⟩ : ByteArray)) = some r := by rw [if_pos rfl] at H; exact H
    clear H
    have H := H1
    clear H1
    obtain rfl := Option.some.inj H
    go_enter Tryd.func61, Tryd.ntmps61
    go_wp2_with (first | ((with_reducible refine gate_dst (N := 1) rfl ?_); refine box_event ?hg (N := 1) ?hd (cs := #[.int .i64 a0_0, .int .i64 a0_1, .int .i64 a0_2, .int .i64 a0_3, .int .i64 a0_4]) (t := 23) ?hr ?_; (case hd => rfl); (case hg => rfl); (case hr => first | (go_simp; done) | (go_simp; rfl)); intro gb171 hg w4 hbox hb; have n0_ := Aside0.mk (below_step (by repeat (first | (with_reducible first | exact HB.out | apply below_alloc | apply pw_below_drewN | apply below_drew1) | exact HB.out)) hb); have n1_ := Aside0.mk (hbox); have n2_ := Aside0.mk ((by rw [hg]; exact (below_size (by repeat (first | (with_reducible first | exact HB.out | apply below_alloc | apply pw_below_drewN | apply below_drew1) | exact HB.out))) : w.heap.size ≤ gb171)); have n3_ := Aside0.mk ((by rw [hg]; exact (below_size (by repeat (first | (with_reducible first | exact HB.out | apply below_alloc | apply pw_below_drewN | apply below_drew1) | exact HB.out))) : w.heap.size ≤ gb171)); clear HB; have HB := n0_; have BK171 := n1_; have GW171 := n2_; have GE171 := n3_; clear n0_ n1_ n2_ n3_; clear hb hbox hg; have hcz5_0 : w4.cell? ⟨gb171, 0, none⟩ = some (.int .i64 a0_0) := (blk_cell BK171.out 0).trans rfl; have hcz5_1 : w4.cell? ⟨gb171, 1, none⟩ = some (.int .i64 a0_1) := (blk_cell BK171.out 1).trans rfl; have hcz5_2 : w4.cell? ⟨gb171, 2, none⟩ = some (.int .i64 a0_2) := (blk_cell BK171.out 2).trans rfl; have hcz5_3 : w4.cell? ⟨gb171, 3, none⟩ = some (.int .i64 a0_3) := (blk_cell BK171.out 3).trans rfl; have hcz5_4 : w4.cell? ⟨gb171, 4, none⟩ = some (.int .i64 a0_4) := (blk_cell BK171.out 4).trans rfl; have hfz5_0 := blk_frozen BK171.out 0; have hfz5_1 := blk_frozen BK171.out 1; have hfz5_2 := blk_frozen BK171.out 2; have hfz5_3 := blk_frozen BK171.out 3; have hfz5_4 := blk_frozen BK171.out 4) | ((with_reducible refine gate_callee (f := 46) rfl ?_); refine goesL_ (some 8) rfl rfl Tryd.func46 (by kernel_rfl) rfl #[.agg #[.int .i64 a0_0, .int .i64 a0_1, .int .i64 a0_2, .int .i64 a0_3, .int .i64 a0_4]] rfl (by (try simp only [List.map_toArray, List.map_cons, List.map_nil]); first | done | rfl | (simp only [List.length_drop, List.length_take]; rfl)) ?_; (with_reducible refine (spoondriftref01_zero.calls a0_0 a0_1 a0_2 a0_3 a0_4 true _ A2.out).mono ?_); rintro e w6 ⟨rfl, hb⟩; refine ⟨_, rfl, ?_⟩; have n0_ := Aside0.mk (blk_below (g := gb171) (o := .cells #[.int .i64 a0_0, .int .i64 a0_1, .int .i64 a0_2, .int .i64 a0_3, .int .i64 a0_4] 23 (0, 0)) (by (with_reducible repeat (first | refine blk_drewN ?_ _ | refine blk_drew ?_ | refine blk_alloc ?_ _)); exact BK171.out) hb); have n1_ := Aside0.mk (below_step (by repeat (first | (with_reducible first | exact HB.out | apply below_alloc | apply pw_below_drewN | apply below_drew1 | refine below_set ?_ GE171.out) | exact HB.out)) hb); clear BK171; clear HB; have BK171 := n0_; have HB := n1_; clear n0_ n1_; (try clear hb); (try clear hb2); (try clear hk); (try clear hi)))
    go_ret
    exact ⟨by first | rfl | (simp [errW_none, errW_some] <;> rfl) | (simp [*, errW_none, errW_some] <;> rfl), by repeat (first | (with_reducible first | exact HB.out | apply below_alloc | apply pw_below_drewN | apply below_drew1 | refine below_set ?_ GE171.out) | exact HB.out)⟩
  · replace c3 := Bool.eq_false_iff.mpr c3
    subst c3
    have H1 : (spoondriftref01_text.l0 k (⟨#[]⟩ : ByteArray) (([a0_0, a0_1, a0_2, a0_3] : List Int)) 0 a0_0 a0_1 a0_2 a0_3 a0_4) = some r := by rw [if_neg (show ¬ (false = true) by decide)] at H; exact H
    clear H
    have H := H1
    clear H1
    obtain ⟨y173, hy173⟩ : ∃ y_ : List Int, y_ = (([a0_0, a0_1, a0_2, a0_3] : List Int)) := ⟨_, rfl⟩
    replace H : (spoondriftref01_text.l0 k (⟨#[]⟩ : ByteArray) y173 0 a0_0 a0_1 a0_2 a0_3 a0_4) = some r := by first | (rw [hy173]; with_reducible exact H) | (have H2_ := (Option.bind_some _ _).symm.trans H; rw [hy173]; with_reducible exact H2_) | (have H2_ := (Option.bind_some _ _).symm.trans H; with_reducible exact H2_) | with_reducible exact H | (rw [hy173]; exact H) | exact H
    have Ny173 := Aside0.mk hy173
    clear hy173
    have H' := Aside0.mk H
    clear H
    go_enter Tryd.func61, Tryd.ntmps61
    go_wp2_with (first | ((with_reducible refine gate_dst (N := 1) rfl ?_); refine box_event ?hg (N := 1) ?hd (cs := #[.int .i64 a0_0, .int .i64 a0_1, .int .i64 a0_2, .int .i64 a0_3, .int .i64 a0_4]) (t := 23) ?hr ?_; (case hd => rfl); (case hg => rfl); (case hr => first | (go_simp; done) | (go_simp; rfl)); intro gb171 hg w7 hbox hb; have n0_ := Aside0.mk (below_step (by repeat (first | (with_reducible first | exact HB.out | apply below_alloc | apply pw_below_drewN | apply below_drew1) | exact HB.out)) hb); have n1_ := Aside0.mk (hbox); have n2_ := Aside0.mk ((by rw [hg]; exact (below_size (by repeat (first | (with_reducible first | exact HB.out | apply below_alloc | apply pw_below_drewN | apply below_drew1) | exact HB.out))) : w.heap.size ≤ gb171)); have n3_ := Aside0.mk ((by rw [hg]; exact (below_size (by repeat (first | (with_reducible first | exact HB.out | apply below_alloc | apply pw_below_drewN | apply below_drew1) | exact HB.out))) : w.heap.size ≤ gb171)); clear HB; have HB := n0_; have BK171 := n1_; have GW171 := n2_; have GE171 := n3_; clear n0_ n1_ n2_ n3_; clear hb hbox hg; have hcz8_0 : w7.cell? ⟨gb171, 0, none⟩ = some (.int .i64 a0_0) := (blk_cell BK171.out 0).trans rfl; have hcz8_1 : w7.cell? ⟨gb171, 1, none⟩ = some (.int .i64 a0_1) := (blk_cell BK171.out 1).trans rfl; have hcz8_2 : w7.cell? ⟨gb171, 2, none⟩ = some (.int .i64 a0_2) := (blk_cell BK171.out 2).trans rfl; have hcz8_3 : w7.cell? ⟨gb171, 3, none⟩ = some (.int .i64 a0_3) := (blk_cell BK171.out 3).trans rfl; have hcz8_4 : w7.cell? ⟨gb171, 4, none⟩ = some (.int .i64 a0_4) := (blk_cell BK171.out 4).trans rfl; have hfz8_0 := blk_frozen BK171.out 0; have hfz8_1 := blk_frozen BK171.out 1; have hfz8_2 := blk_frozen BK171.out 2; have hfz8_3 := blk_frozen BK171.out 3; have hfz8_4 := blk_frozen BK171.out 4) | ((with_reducible refine gate_callee (f := 46) rfl ?_); refine goesL_ (some 8) rfl rfl Tryd.func46 (by kernel_rfl) rfl #[.agg #[.int .i64 a0_0, .int .i64 a0_1, .int .i64 a0_2, .int .i64 a0_3, .int .i64 a0_4]] rfl (by (try simp only [List.map_toArray, List.map_cons, List.map_nil]); first | done | rfl | (simp only [List.length_drop, List.length_take]; rfl)) ?_; (with_reducible refine (spoondriftref01_zero.calls a0_0 a0_1 a0_2 a0_3 a0_4 false _ A2.out).mono ?_); rintro e w9 ⟨rfl, hb⟩; refine ⟨_, rfl, ?_⟩; have n0_ := Aside0.mk (blk_below (g := gb171) (o := .cells #[.int .i64 a0_0, .int .i64 a0_1, .int .i64 a0_2, .int .i64 a0_3, .int .i64 a0_4] 23 (0, 0)) (by (with_reducible repeat (first | refine blk_drewN ?_ _ | refine blk_drew ?_ | refine blk_alloc ?_ _)); exact BK171.out) hb); have n1_ := Aside0.mk (below_step (by repeat (first | (with_reducible first | exact HB.out | apply below_alloc | apply pw_below_drewN | apply below_drew1 | refine below_set ?_ GE171.out) | exact HB.out)) hb); clear BK171; clear HB; have BK171 := n0_; have HB := n1_; clear n0_ n1_; (try clear hb); (try clear hb2); (try clear hk); (try clear hi); have hcz10_0 : w9.cell? ⟨gb171, 0, none⟩ = some (.int .i64 a0_0) := (blk_cell BK171.out 0).trans rfl; have hcz10_1 : w9.cell? ⟨gb171, 1, none⟩ = some (.int .i64 a0_1) := (blk_cell BK171.out 1).trans rfl; have hcz10_2 : w9.cell? ⟨gb171, 2, none⟩ = some (.int .i64 a0_2) := (blk_cell BK171.out 2).trans rfl; have hcz10_3 : w9.cell? ⟨gb171, 3, none⟩ = some (.int .i64 a0_3) := (blk_cell BK171.out 3).trans rfl; have hcz10_4 : w9.cell? ⟨gb171, 4, none⟩ = some (.int .i64 a0_4) := (blk_cell BK171.out 4).trans rfl; have hfz10_0 := blk_frozen BK171.out 0; have hfz10_1 := blk_frozen BK171.out 1; have hfz10_2 := blk_frozen BK171.out 2; have hfz10_3 := blk_frozen BK171.out 3; have hfz10_4 := blk_frozen BK171.out 4) | ((with_reducible refine gate_dst (N := 17) rfl ?_); refine Kd.R_lit (Kd.int .i64) _ 3 ?hg (N := 17) ?hd (xs := ([a0_0, a0_1, a0_2, a0_3] : List Int)) (inner := [.int .i64 a0_0, .int .i64 a0_1, .int .i64 a0_2, .int .i64 a0_3]) (ok := fun _ => True) (okp := fun _ => True) ?hr ?hp (fun _ hk => hk) trivial (Below.refl _ _) (Nat.le_refl _) (by simp) ?_; (case hd => rfl); (case hg => rfl); (case hr => first | (go_simp; done) | (go_simp; rfl)); (case hp => exact (Reps.one (show Kd.M (Kd.int .i64) _ _ _ a0_0 [.int .i64 a0_0] from rfl) (Reps.one (show Kd.M (Kd.int .i64) _ _ _ a0_1 [.int .i64 a0_1] from rfl) (Reps.one (show Kd.M (Kd.int .i64) _ _ _ a0_2 [.int .i64 a0_2] from rfl) (Reps.one (show Kd.M (Kd.int .i64) _ _ _ a0_3 [.int .i64 a0_3] from rfl) (Reps.none _ _)))))); intro v174 w11 ho12 hb hg_ hnew_; clear hg_ hnew_; (first | rw [← Ny173.out] at ho12 | (simp only [Int.reduceToNat] at ho12; rw [← Ny173.out] at ho12)); have n0_ := Aside0.mk (Kd.R_lower ho12 (below_size (by repeat (first | (with_reducible first | exact HB.out | apply below_alloc | apply pw_below_drewN | apply below_drew1 | refine below_set ?_ GE171.out) | exact HB.out)))); have n1_ := Aside0.mk (blk_below (g := gb171) (o := .cells #[.int .i64 a0_0, .int .i64 a0_1, .int .i64 a0_2, .int .i64 a0_3, .int .i64 a0_4] 23 (0, 0)) (by (with_reducible repeat (first | refine blk_drewN ?_ _ | refine blk_drew ?_ | refine blk_alloc ?_ _)); exact BK171.out) hb); have n2_ := Aside0.mk (below_step (by repeat (first | (with_reducible first | exact HB.out | apply below_alloc | apply pw_below_drewN | apply below_drew1 | refine below_set ?_ GE171.out) | exact HB.out)) hb); clear BK171; clear HB; have HO175 := n0_; have BK171 := n1_; have HB := n2_; clear n0_ n1_ n2_; clear hb ho12))
    (try simp only [Act.put, List.setIfInBounds_toArray, List.set_cons_zero, List.set_cons_succ])
    go_loopg [3, 5] k (fun kq v3 v5 w' => ∃ (x3_1 : ByteArray) (x5_1 : Int), v3 = .string x3_1 ∧ v5 = .int .i64 x5_1 ∧ Aside0 (spoondriftref01_text.l0 kq x3_1 y173 x5_1 a0_0 a0_1 a0_2 a0_3 a0_4 = some r) ∧ Aside0 (kq ≤ k) ∧ Aside0 (Kd.R (Kd.int .i64) 3 w' w.heap.size (fun _ => True) v174 y173) ∧ Aside0 (w'.heap[gb171]? = some (.cells #[.int .i64 a0_0, .int .i64 a0_1, .int .i64 a0_2, .int .i64 a0_3, .int .i64 a0_4] 23 (0, 0))) ∧ Aside0 (Below w.heap.size w w'))
    case atStart => exact ⟨((⟨#[]⟩ : ByteArray)), (0), (by first | rfl | (simp; done) | (simp [*]; done)), (by first | rfl | (simp; done) | (simp [*]; done)), H', ⟨Nat.le_refl _⟩, ⟨by (with_reducible repeat (first | apply Kd.R_alloc | apply Kd.R_drewN | apply Kd.R_drew)); exact HO175.out⟩, ⟨by (with_reducible repeat (first | refine blk_drewN ?_ _ | refine blk_drew ?_ | refine blk_alloc ?_ _)); exact BK171.out⟩, ⟨by repeat (first | (with_reducible first | exact HB.out | apply below_alloc | apply pw_below_drewN | apply below_drew1 | refine below_set ?_ GE171.out) | exact HB.out)⟩⟩
    case round =>
      clear H'
      try clear p2
      try clear c3
      try clear c4
      try clear c6
      try clear hcz10_0
      try clear hcz10_1
      try clear hcz10_2
      try clear hcz10_3
      try clear hcz10_4
      try clear hcz5_0
      try clear hcz5_1
      try clear hcz5_2
      try clear hcz5_3
      try clear hcz5_4
      try clear hcz8_0
      try clear hcz8_1
      try clear hcz8_2
      try clear hcz8_3
      try clear hcz8_4
      try clear hfz10_0
      try clear hfz10_1
      try clear hfz10_2
      try clear hfz10_3
      try clear hfz10_4
      try clear hfz5_0
      try clear hfz5_1
      try clear hfz5_2
      try clear hfz5_3
      try clear hfz5_4
      try clear hfz8_0
      try clear hfz8_1
      try clear hfz8_2
      try clear hfz8_3
      try clear hfz8_4
      obtain ⟨x3_1, x5_1, rfl, rfl, HA, HK1, HO_4, BK171, HB⟩ := hrel
      cases gk with
      | zero => exact absurd HA.out (by simp [spoondriftref01_text.l0])
      | succ k1 =>
        have H := HA.out
        clear HA
        simp only [spoondriftref01_text.l0] at H
        by_cases c13 : x5_1 < 4
        · rw [if_pos c13] at H
          have c13b0 : decide (x5_1 < 4) = true := decide_eq_true c13
          clear c13
          by_cases c14 : 0 ≤ x5_1
          · rw [if_pos c14] at H
            have c14b0 : decide (0 ≤ x5_1) = true := decide_eq_true c14
            clear c14
            by_cases c15 : x5_1 < (y173.length : Int)
            · rw [if_pos c15] at H
              have c15b0 : decide (x5_1 < (y173.length : Int)) = true := decide_eq_true c15
              clear c15
              by_cases c16 : (rd y173 x5_1) = 0
              · rw [if_pos c16] at H
                have c16b0 : ((rd y173 x5_1) == 0) = true := beq_iff_eq.mpr c16
                have c16b1 : ((rd y173 x5_1) != 0) = false := bne_eq_false_iff_eq.mpr c16
                clear c16
                have H' := Aside0.mk H
                clear H
                obtain ⟨Ao17, co17, eo17⟩ := Kd.R_slice HO_4.out
                subst eo17
                have p177 : 0 ≤ (x5_1 : Int) := of_decide_eq_true (by first | (with_reducible assumption) | assumption)
                have q177 : x5_1 < (y173.length : Int) := of_decide_eq_true (by first | (with_reducible assumption) | assumption)
                obtain ⟨ad177, e177, hx177_0⟩ := Kd.at_int (Kd.R_reads' HO_4.out).2.2 x5_1 p177 q177
                cases e177
                replace p177 := eq_true p177
                replace q177 := eq_true q177
                go_wp2
                go_roundg k1
                case measure => have := HK1.out; omega
                case rel => exact ⟨(x3_1), (wrap64 (x5_1 + 1)), (by first | rfl | (simp; done) | (simp [*]; done)), (by first | rfl | (simp; done) | (simp [*]; done)), H', ⟨by have := HK1.out; omega⟩, ⟨by (with_reducible repeat (first | apply Kd.R_alloc | apply Kd.R_drewN | apply Kd.R_drew)); exact HO_4.out⟩, ⟨by (with_reducible repeat (first | refine blk_drewN ?_ _ | refine blk_drew ?_ | refine blk_alloc ?_ _)); exact BK171.out⟩, ⟨by repeat (first | (with_reducible first | exact HB.out | apply below_alloc | apply pw_below_drewN | apply below_drew1 | refine below_set ?_ GE171.out) | exact HB.out)⟩⟩
              · rw [if_neg c16] at H
                have c16b0 : ((rd y173 x5_1) == 0) = false := beq_eq_false_iff_ne.mpr c16
                have c16b1 : ((rd y173 x5_1) != 0) = true := bne_iff_ne.mpr c16
                by_cases c18 : (rd y173 x5_1) < 0
                · rw [if_pos c18] at H
                  have c18b0 : decide ((rd y173 x5_1) < 0) = true := decide_eq_true c18
                  clear c18
                  by_cases c19 : x3_1.size + 1 ≤ 9223372036854775807
                  · rw [if_pos c19] at H
                    have c19b0 := eq_true c19
                    have c19b1 : decide (x3_1.size + 1 ≤ 9223372036854775807) = true := decide_eq_true c19
                    try have c19b2 : (9223372036854775807 < x3_1.size + 1) = False := eq_false (Nat.not_lt.2 c19)
                    try (have c19b3 := Nat.not_lt.2 c19; simp only [ByteArray.size_append] at c19b3; replace c19b3 := eq_false c19b3)
                    by_cases c20 : (wrap64 (-(rd y173 x5_1))) = 1
                    · rw [if_pos c20] at H
                      have c20b0 : ((wrap64 (-(rd y173 x5_1))) == 1) = true := beq_iff_eq.mpr c20
                      have c20b1 : ((wrap64 (-(rd y173 x5_1))) != 1) = false := bne_eq_false_iff_eq.mpr c20
                      clear c20
                      by_cases c21 : x5_1 = 0
                      · rw [if_pos c21] at H
                        have c21b0 : (x5_1 == 0) = true := beq_iff_eq.mpr c21
                        have c21b1 : (x5_1 != 0) = false := bne_eq_false_iff_eq.mpr c21
                        clear c21
                        replace H := Option.bind_eq_some_iff.mp H
                        obtain ⟨t178, A220, H⟩ := H
                        replace H : (if (x3_1 ++ (⟨#[45]⟩ : ByteArray)).size + t178.size ≤ 9223372036854775807 then ((some (([(⟨#[]⟩ : ByteArray), (⟨#[119]⟩ : ByteArray), (⟨#[119, 50]⟩ : ByteArray), (⟨#[119, 51]⟩ : ByteArray)] : List ByteArray) : List ByteArray)).bind fun y179 => (if x5_1 < (y179.length : Int) then (if ((x3_1 ++ (⟨#[45]⟩ : ByteArray)) ++ t178).size + (rdOf ByteArray.empty y179 x5_1).size ≤ 9223372036854775807 then (spoondriftref01_text.l0 k1 (((x3_1 ++ (⟨#[45]⟩ : ByteArray)) ++ t178) ++ (rdOf ByteArray.empty y179 x5_1)) y173 (wrap64 (x5_1 + 1)) a0_0 a0_1 a0_2 a0_3 a0_4) else (none)) else (none))) else (none)) = some r := H
                        have A22 := Aside0.mk A220
                        clear A220
                        by_cases c23 : (x3_1 ++ (⟨#[45]⟩ : ByteArray)).size + t178.size ≤ 9223372036854775807
                        · rw [if_pos c23] at H
                          have c23b0 := eq_true c23
                          have c23b1 : decide ((x3_1 ++ (⟨#[45]⟩ : ByteArray)).size + t178.size ≤ 9223372036854775807) = true := decide_eq_true c23
                          try have c23b2 : (9223372036854775807 < (x3_1 ++ (⟨#[45]⟩ : ByteArray)).size + t178.size) = False := eq_false (Nat.not_lt.2 c23)
                          try (have c23b3 := Nat.not_lt.2 c23; simp only [ByteArray.size_append, show (⟨#[45]⟩ : ByteArray).size = 1 from rfl] at c23b3; replace c23b3 := eq_false c23b3)
                          obtain ⟨y179, hy179⟩ : ∃ y_ : List ByteArray, y_ = (([(⟨#[]⟩ : ByteArray), (⟨#[119]⟩ : ByteArray), (⟨#[119, 50]⟩ : ByteArray), (⟨#[119, 51]⟩ : ByteArray)] : List ByteArray)) := ⟨_, rfl⟩
                          replace H : (if x5_1 < (y179.length : Int) then (if ((x3_1 ++ (⟨#[45]⟩ : ByteArray)) ++ t178).size + (rdOf ByteArray.empty y179 x5_1).size ≤ 9223372036854775807 then (spoondriftref01_text.l0 k1 (((x3_1 ++ (⟨#[45]⟩ : ByteArray)) ++ t178) ++ (rdOf ByteArray.empty y179 x5_1)) y173 (wrap64 (x5_1 + 1)) a0_0 a0_1 a0_2 a0_3 a0_4) else (none)) else (none)) = some r := by first | (rw [hy179]; with_reducible exact H) | (have H2_ := (Option.bind_some _ _).symm.trans H; rw [hy179]; with_reducible exact H2_) | (have H2_ := (Option.bind_some _ _).symm.trans H; with_reducible exact H2_) | with_reducible exact H | (rw [hy179]; exact H) | exact H
                          have Ny179 := Aside0.mk hy179
                          clear hy179
                          by_cases c24 : x5_1 < (y179.length : Int)
                          · rw [if_pos c24] at H
                            have c24b0 : decide (x5_1 < (y179.length : Int)) = true := decide_eq_true c24
                            clear c24
                            by_cases c25 : ((x3_1 ++ (⟨#[45]⟩ : ByteArray)) ++ t178).size + (rdOf ByteArray.empty y179 x5_1).size ≤ 9223372036854775807
                            · rw [if_pos c25] at H
                              have c25b0 := eq_true c25
                              have c25b1 : decide (((x3_1 ++ (⟨#[45]⟩ : ByteArray)) ++ t178).size + (rdOf ByteArray.empty y179 x5_1).size ≤ 9223372036854775807) = true := decide_eq_true c25
                              try have c25b2 : (9223372036854775807 < ((x3_1 ++ (⟨#[45]⟩ : ByteArray)) ++ t178).size + (rdOf ByteArray.empty y179 x5_1).size) = False := eq_false (Nat.not_lt.2 c25)
                              try (have c25b3 := Nat.not_lt.2 c25; simp only [ByteArray.size_append, show (⟨#[45]⟩ : ByteArray).size = 1 from rfl] at c25b3; replace c25b3 := eq_false c25b3)
                              have H' := Aside0.mk H
                              clear H
                              obtain ⟨Ao26, co26, eo26⟩ := Kd.R_slice HO_4.out
                              subst eo26
                              have p177 : 0 ≤ (x5_1 : Int) := of_decide_eq_true (by first | (with_reducible assumption) | assumption)
                              have q177 : x5_1 < (y173.length : Int) := of_decide_eq_true (by first | (with_reducible assumption) | assumption)
                              obtain ⟨ad177, e177, hx177_0⟩ := Kd.at_int (Kd.R_reads' HO_4.out).2.2 x5_1 p177 q177
                              cases e177
                              replace p177 := eq_true p177
                              replace q177 := eq_true q177
                              go_wp2_with (first | ((with_reducible refine gate_callee (f := 87) rfl ?_); refine goesL_ (some 46) rfl rfl Tryd.func87 (by kernel_rfl) rfl #[.int .i64 (wrap64 (-(rd y173 x5_1)))] rfl (by (try simp only [List.map_toArray, List.map_cons, List.map_nil]); first | done | rfl | (simp only [List.length_drop, List.length_take]; rfl)) ?_; (with_reducible refine (spoondriftref01_digits.calls k1 (wrap64 (-(rd y173 x5_1))) t178 _ A22.out).mono ?_); rintro e w' ⟨rfl, ⟨nd, rfl⟩⟩; refine ⟨_, rfl, ?_⟩) | ((with_reducible refine gate_dst (N := 49) rfl ?_); refine Kd.R_lit Kd.string _ 9 ?hg (N := 49) ?hd (xs := ([(⟨#[]⟩ : ByteArray), (⟨#[119]⟩ : ByteArray), (⟨#[119, 50]⟩ : ByteArray), (⟨#[119, 51]⟩ : ByteArray)] : List ByteArray)) (inner := [.string (⟨#[]⟩ : ByteArray), .string (⟨#[119]⟩ : ByteArray), .string (⟨#[119, 50]⟩ : ByteArray), .string (⟨#[119, 51]⟩ : ByteArray)]) (ok := fun _ => True) (okp := fun _ => True) ?hr ?hp (fun _ hk => hk) trivial (Below.refl _ _) (Nat.le_refl _) (by simp) ?_; (case hd => rfl); (case hg => rfl); (case hr => first | (go_simp; done) | (go_simp; rfl)); (case hp => exact (Reps.one (show Kd.M Kd.string _ _ _ (⟨#[]⟩ : ByteArray) [.string (⟨#[]⟩ : ByteArray)] from rfl) (Reps.one (show Kd.M Kd.string _ _ _ (⟨#[119]⟩ : ByteArray) [.string (⟨#[119]⟩ : ByteArray)] from rfl) (Reps.one (show Kd.M Kd.string _ _ _ (⟨#[119, 50]⟩ : ByteArray) [.string (⟨#[119, 50]⟩ : ByteArray)] from rfl) (Reps.one (show Kd.M Kd.string _ _ _ (⟨#[119, 51]⟩ : ByteArray) [.string (⟨#[119, 51]⟩ : ByteArray)] from rfl) (Reps.none _ _)))))); intro v180 w27 ho28 hb hg_ hnew_; clear hg_ hnew_; (first | rw [← Ny179.out] at ho28 | (simp only [Int.reduceToNat] at ho28; rw [← Ny179.out] at ho28)); have n0_ := Aside0.mk (Kd.R_below (by (with_reducible repeat (first | apply Kd.R_alloc | apply Kd.R_drewN | apply Kd.R_drew)); exact HO_4.out) hb); have n1_ := Aside0.mk (Kd.R_lower ho28 (below_size (by repeat (first | (with_reducible first | exact HB.out | apply below_alloc | apply pw_below_drewN | apply below_drew1 | refine below_set ?_ GE171.out) | exact HB.out)))); have n2_ := Aside0.mk (blk_below (g := gb171) (o := .cells #[.int .i64 a0_0, .int .i64 a0_1, .int .i64 a0_2, .int .i64 a0_3, .int .i64 a0_4] 23 (0, 0)) (by (with_reducible repeat (first | refine blk_drewN ?_ _ | refine blk_drew ?_ | refine blk_alloc ?_ _)); exact BK171.out) hb); have n3_ := Aside0.mk (below_step (by repeat (first | (with_reducible first | exact HB.out | apply below_alloc | apply pw_below_drewN | apply below_drew1 | refine below_set ?_ GE171.out) | exact HB.out)) hb); clear HO_4; clear BK171; clear HB; have HO_4 := n0_; have HO181 := n1_; have BK171 := n2_; have HB := n3_; clear n0_ n1_ n2_ n3_; clear hb ho28; obtain ⟨Ao29, co29, eo29⟩ := Kd.R_slice HO181.out; subst eo29; have p182 : 0 ≤ (x5_1 : Int) := of_decide_eq_true (by first | (with_reducible assumption) | assumption); have q182 : x5_1 < (y179.length : Int) := of_decide_eq_true (by first | (with_reducible assumption) | assumption); obtain ⟨ad182, e182, hx182_0⟩ := Kd.at_string (Kd.R_reads' HO181.out).2.2 x5_1 p182 q182; cases e182; replace p182 := eq_true p182; replace q182 := eq_true q182))
                              go_roundg k1
                              case measure => have := HK1.out; omega
                              case rel => exact ⟨(((x3_1 ++ (⟨#[45]⟩ : ByteArray)) ++ t178) ++ (rdOf ByteArray.empty y179 x5_1)), (wrap64 (x5_1 + 1)), (by first | rfl | (simp; done) | (simp [*]; done)), (by first | rfl | (simp; done) | (simp [*]; done)), H', ⟨by have := HK1.out; omega⟩, ⟨by (with_reducible repeat (first | apply Kd.R_alloc | apply Kd.R_drewN | apply Kd.R_drew)); exact HO_4.out⟩, ⟨by (with_reducible repeat (first | refine blk_drewN ?_ _ | refine blk_drew ?_ | refine blk_alloc ?_ _)); exact BK171.out⟩, ⟨by repeat (first | (with_reducible first | exact HB.out | apply below_alloc | apply pw_below_drewN | apply below_drew1 | refine below_set ?_ GE171.out) | exact HB.out)⟩⟩
                            · rw [if_neg c25] at H
                              exact absurd H (by simp)
                          · rw [if_neg c24] at H
                            exact absurd H (by simp)
                        · rw [if_neg c23] at H
                          exact absurd H (by simp)
                      · rw [if_neg c21] at H
                        have c21b0 : (x5_1 == 0) = false := beq_eq_false_iff_ne.mpr c21
                        have c21b1 : (x5_1 != 0) = true := bne_iff_ne.mpr c21
                        obtain ⟨y183, hy183⟩ : ∃ y_ : List ByteArray, y_ = (([(⟨#[]⟩ : ByteArray), (⟨#[119]⟩ : ByteArray), (⟨#[119, 50]⟩ : ByteArray), (⟨#[119, 51]⟩ : ByteArray)] : List ByteArray)) := ⟨_, rfl⟩
                        replace H : (if x5_1 < (y183.length : Int) then (if (x3_1 ++ (⟨#[45]⟩ : ByteArray)).size + (rdOf ByteArray.empty y183 x5_1).size ≤ 9223372036854775807 then (spoondriftref01_text.l0 k1 ((x3_1 ++ (⟨#[45]⟩ : ByteArray)) ++ (rdOf ByteArray.empty y183 x5_1)) y173 (wrap64 (x5_1 + 1)) a0_0 a0_1 a0_2 a0_3 a0_4) else (none)) else (none)) = some r := by first | (rw [hy183]; with_reducible exact H) | (have H2_ := (Option.bind_some _ _).symm.trans H; rw [hy183]; with_reducible exact H2_) | (have H2_ := (Option.bind_some _ _).symm.trans H; with_reducible exact H2_) | with_reducible exact H | (rw [hy183]; exact H) | exact H
                        have Ny183 := Aside0.mk hy183
                        clear hy183
                        by_cases c30 : x5_1 < (y183.length : Int)
                        · rw [if_pos c30] at H
                          have c30b0 : decide (x5_1 < (y183.length : Int)) = true := decide_eq_true c30
                          clear c30
                          by_cases c31 : (x3_1 ++ (⟨#[45]⟩ : ByteArray)).size + (rdOf ByteArray.empty y183 x5_1).size ≤ 9223372036854775807
                          · rw [if_pos c31] at H
                            have c31b0 := eq_true c31
                            have c31b1 : decide ((x3_1 ++ (⟨#[45]⟩ : ByteArray)).size + (rdOf ByteArray.empty y183 x5_1).size ≤ 9223372036854775807) = true := decide_eq_true c31
                            try have c31b2 : (9223372036854775807 < (x3_1 ++ (⟨#[45]⟩ : ByteArray)).size + (rdOf ByteArray.empty y183 x5_1).size) = False := eq_false (Nat.not_lt.2 c31)
                            try (have c31b3 := Nat.not_lt.2 c31; simp only [ByteArray.size_append, show (⟨#[45]⟩ : ByteArray).size = 1 from rfl] at c31b3; replace c31b3 := eq_false c31b3)
                            have H' := Aside0.mk H
                            clear H
                            obtain ⟨Ao32, co32, eo32⟩ := Kd.R_slice HO_4.out
                            subst eo32
                            have p177 : 0 ≤ (x5_1 : Int) := of_decide_eq_true (by first | (with_reducible assumption) | assumption)
                            have q177 : x5_1 < (y173.length : Int) := of_decide_eq_true (by first | (with_reducible assumption) | assumption)
                            obtain ⟨ad177, e177, hx177_0⟩ := Kd.at_int (Kd.R_reads' HO_4.out).2.2 x5_1 p177 q177
                            cases e177
                            replace p177 := eq_true p177
                            replace q177 := eq_true q177
                            go_wp2_with (first | ((with_reducible refine gate_dst (N := 49) rfl ?_); refine Kd.R_lit Kd.string _ 9 ?hg (N := 49) ?hd (xs := ([(⟨#[]⟩ : ByteArray), (⟨#[119]⟩ : ByteArray), (⟨#[119, 50]⟩ : ByteArray), (⟨#[119, 51]⟩ : ByteArray)] : List ByteArray)) (inner := [.string (⟨#[]⟩ : ByteArray), .string (⟨#[119]⟩ : ByteArray), .string (⟨#[119, 50]⟩ : ByteArray), .string (⟨#[119, 51]⟩ : ByteArray)]) (ok := fun _ => True) (okp := fun _ => True) ?hr ?hp (fun _ hk => hk) trivial (Below.refl _ _) (Nat.le_refl _) (by simp) ?_; (case hd => rfl); (case hg => rfl); (case hr => first | (go_simp; done) | (go_simp; rfl)); (case hp => exact (Reps.one (show Kd.M Kd.string _ _ _ (⟨#[]⟩ : ByteArray) [.string (⟨#[]⟩ : ByteArray)] from rfl) (Reps.one (show Kd.M Kd.string _ _ _ (⟨#[119]⟩ : ByteArray) [.string (⟨#[119]⟩ : ByteArray)] from rfl) (Reps.one (show Kd.M Kd.string _ _ _ (⟨#[119, 50]⟩ : ByteArray) [.string (⟨#[119, 50]⟩ : ByteArray)] from rfl) (Reps.one (show Kd.M Kd.string _ _ _ (⟨#[119, 51]⟩ : ByteArray) [.string (⟨#[119, 51]⟩ : ByteArray)] from rfl) (Reps.none _ _)))))); intro v184 w33 ho34 hb hg_ hnew_; clear hg_ hnew_; (first | rw [← Ny183.out] at ho34 | (simp only [Int.reduceToNat] at ho34; rw [← Ny183.out] at ho34)); have n0_ := Aside0.mk (Kd.R_below (by (with_reducible repeat (first | apply Kd.R_alloc | apply Kd.R_drewN | apply Kd.R_drew)); exact HO_4.out) hb); have n1_ := Aside0.mk (Kd.R_lower ho34 (below_size (by repeat (first | (with_reducible first | exact HB.out | apply below_alloc | apply pw_below_drewN | apply below_drew1 | refine below_set ?_ GE171.out) | exact HB.out)))); have n2_ := Aside0.mk (blk_below (g := gb171) (o := .cells #[.int .i64 a0_0, .int .i64 a0_1, .int .i64 a0_2, .int .i64 a0_3, .int .i64 a0_4] 23 (0, 0)) (by (with_reducible repeat (first | refine blk_drewN ?_ _ | refine blk_drew ?_ | refine blk_alloc ?_ _)); exact BK171.out) hb); have n3_ := Aside0.mk (below_step (by repeat (first | (with_reducible first | exact HB.out | apply below_alloc | apply pw_below_drewN | apply below_drew1 | refine below_set ?_ GE171.out) | exact HB.out)) hb); clear HO_4; clear BK171; clear HB; have HO_4 := n0_; have HO185 := n1_; have BK171 := n2_; have HB := n3_; clear n0_ n1_ n2_ n3_; clear hb ho34; obtain ⟨Ao35, co35, eo35⟩ := Kd.R_slice HO185.out; subst eo35; have p186 : 0 ≤ (x5_1 : Int) := of_decide_eq_true (by first | (with_reducible assumption) | assumption); have q186 : x5_1 < (y183.length : Int) := of_decide_eq_true (by first | (with_reducible assumption) | assumption); obtain ⟨ad186, e186, hx186_0⟩ := Kd.at_string (Kd.R_reads' HO185.out).2.2 x5_1 p186 q186; cases e186; replace p186 := eq_true p186; replace q186 := eq_true q186))
                            go_roundg k1
                            case measure => have := HK1.out; omega
                            case rel => exact ⟨((x3_1 ++ (⟨#[45]⟩ : ByteArray)) ++ (rdOf ByteArray.empty y183 x5_1)), (wrap64 (x5_1 + 1)), (by first | rfl | (simp; done) | (simp [*]; done)), (by first | rfl | (simp; done) | (simp [*]; done)), H', ⟨by have := HK1.out; omega⟩, ⟨by (with_reducible repeat (first | apply Kd.R_alloc | apply Kd.R_drewN | apply Kd.R_drew)); exact HO_4.out⟩, ⟨by (with_reducible repeat (first | refine blk_drewN ?_ _ | refine blk_drew ?_ | refine blk_alloc ?_ _)); exact BK171.out⟩, ⟨by repeat (first | (with_reducible first | exact HB.out | apply below_alloc | apply pw_below_drewN | apply below_drew1 | refine below_set ?_ GE171.out) | exact HB.out)⟩⟩
                          · rw [if_neg c31] at H
                            exact absurd H (by simp)
                        · rw [if_neg c30] at H
                          exact absurd H (by simp)
                    · rw [if_neg c20] at H
                      have c20b0 : ((wrap64 (-(rd y173 x5_1))) == 1) = false := beq_eq_false_iff_ne.mpr c20
                      have c20b1 : ((wrap64 (-(rd y173 x5_1))) != 1) = true := bne_iff_ne.mpr c20
                      replace H := Option.bind_eq_some_iff.mp H
                      obtain ⟨t187, A360, H⟩ := H
                      replace H : (if (x3_1 ++ (⟨#[45]⟩ : ByteArray)).size + t187.size ≤ 9223372036854775807 then ((some (([(⟨#[]⟩ : ByteArray), (⟨#[119]⟩ : ByteArray), (⟨#[119, 50]⟩ : ByteArray), (⟨#[119, 51]⟩ : ByteArray)] : List ByteArray) : List ByteArray)).bind fun y188 => (if x5_1 < (y188.length : Int) then (if ((x3_1 ++ (⟨#[45]⟩ : ByteArray)) ++ t187).size + (rdOf ByteArray.empty y188 x5_1).size ≤ 9223372036854775807 then (spoondriftref01_text.l0 k1 (((x3_1 ++ (⟨#[45]⟩ : ByteArray)) ++ t187) ++ (rdOf ByteArray.empty y188 x5_1)) y173 (wrap64 (x5_1 + 1)) a0_0 a0_1 a0_2 a0_3 a0_4) else (none)) else (none))) else (none)) = some r := H
                      have A36 := Aside0.mk A360
                      clear A360
                      by_cases c37 : (x3_1 ++ (⟨#[45]⟩ : ByteArray)).size + t187.size ≤ 9223372036854775807
                      · rw [if_pos c37] at H
                        have c37b0 := eq_true c37
                        have c37b1 : decide ((x3_1 ++ (⟨#[45]⟩ : ByteArray)).size + t187.size ≤ 9223372036854775807) = true := decide_eq_true c37
                        try have c37b2 : (9223372036854775807 < (x3_1 ++ (⟨#[45]⟩ : ByteArray)).size + t187.size) = False := eq_false (Nat.not_lt.2 c37)
                        try (have c37b3 := Nat.not_lt.2 c37; simp only [ByteArray.size_append, show (⟨#[45]⟩ : ByteArray).size = 1 from rfl] at c37b3; replace c37b3 := eq_false c37b3)
                        obtain ⟨y188, hy188⟩ : ∃ y_ : List ByteArray, y_ = (([(⟨#[]⟩ : ByteArray), (⟨#[119]⟩ : ByteArray), (⟨#[119, 50]⟩ : ByteArray), (⟨#[119, 51]⟩ : ByteArray)] : List ByteArray)) := ⟨_, rfl⟩
                        replace H : (if x5_1 < (y188.length : Int) then (if ((x3_1 ++ (⟨#[45]⟩ : ByteArray)) ++ t187).size + (rdOf ByteArray.empty y188 x5_1).size ≤ 9223372036854775807 then (spoondriftref01_text.l0 k1 (((x3_1 ++ (⟨#[45]⟩ : ByteArray)) ++ t187) ++ (rdOf ByteArray.empty y188 x5_1)) y173 (wrap64 (x5_1 + 1)) a0_0 a0_1 a0_2 a0_3 a0_4) else (none)) else (none)) = some r := by first | (rw [hy188]; with_reducible exact H) | (have H2_ := (Option.bind_some _ _).symm.trans H; rw [hy188]; with_reducible exact H2_) | (have H2_ := (Option.bind_some _ _).symm.trans H; with_reducible exact H2_) | with_reducible exact H | (rw [hy188]; exact H) | exact H
                        have Ny188 := Aside0.mk hy188
                        clear hy188
                        by_cases c38 : x5_1 < (y188.length : Int)
                        · rw [if_pos c38] at H
                          have c38b0 : decide (x5_1 < (y188.length : Int)) = true := decide_eq_true c38
                          clear c38
                          by_cases c39 : ((x3_1 ++ (⟨#[45]⟩ : ByteArray)) ++ t187).size + (rdOf ByteArray.empty y188 x5_1).size ≤ 9223372036854775807
                          · rw [if_pos c39] at H
                            have c39b0 := eq_true c39
                            have c39b1 : decide (((x3_1 ++ (⟨#[45]⟩ : ByteArray)) ++ t187).size + (rdOf ByteArray.empty y188 x5_1).size ≤ 9223372036854775807) = true := decide_eq_true c39
                            try have c39b2 : (9223372036854775807 < ((x3_1 ++ (⟨#[45]⟩ : ByteArray)) ++ t187).size + (rdOf ByteArray.empty y188 x5_1).size) = False := eq_false (Nat.not_lt.2 c39)
                            try (have c39b3 := Nat.not_lt.2 c39; simp only [ByteArray.size_append, show (⟨#[45]⟩ : ByteArray).size = 1 from rfl] at c39b3; replace c39b3 := eq_false c39b3)
                            have H' := Aside0.mk H
                            clear H
                            obtain ⟨Ao40, co40, eo40⟩ := Kd.R_slice HO_4.out
                            subst eo40
                            have p177 : 0 ≤ (x5_1 : Int) := of_decide_eq_true (by first | (with_reducible assumption) | assumption)
                            have q177 : x5_1 < (y173.length : Int) := of_decide_eq_true (by first | (with_reducible assumption) | assumption)
                            obtain ⟨ad177, e177, hx177_0⟩ := Kd.at_int (Kd.R_reads' HO_4.out).2.2 x5_1 p177 q177
                            cases e177
                            replace p177 := eq_true p177
                            replace q177 := eq_true q177
                            go_wp2_with (first | ((with_reducible refine gate_callee (f := 87) rfl ?_); refine goesL_ (some 46) rfl rfl Tryd.func87 (by kernel_rfl) rfl #[.int .i64 (wrap64 (-(rd y173 x5_1)))] rfl (by (try simp only [List.map_toArray, List.map_cons, List.map_nil]); first | done | rfl | (simp only [List.length_drop, List.length_take]; rfl)) ?_; (with_reducible refine (spoondriftref01_digits.calls k1 (wrap64 (-(rd y173 x5_1))) t187 _ A36.out).mono ?_); rintro e w' ⟨rfl, ⟨nd, rfl⟩⟩; refine ⟨_, rfl, ?_⟩) | ((with_reducible refine gate_dst (N := 49) rfl ?_); refine Kd.R_lit Kd.string _ 9 ?hg (N := 49) ?hd (xs := ([(⟨#[]⟩ : ByteArray), (⟨#[119]⟩ : ByteArray), (⟨#[119, 50]⟩ : ByteArray), (⟨#[119, 51]⟩ : ByteArray)] : List ByteArray)) (inner := [.string (⟨#[]⟩ : ByteArray), .string (⟨#[119]⟩ : ByteArray), .string (⟨#[119, 50]⟩ : ByteArray), .string (⟨#[119, 51]⟩ : ByteArray)]) (ok := fun _ => True) (okp := fun _ => True) ?hr ?hp (fun _ hk => hk) trivial (Below.refl _ _) (Nat.le_refl _) (by simp) ?_; (case hd => rfl); (case hg => rfl); (case hr => first | (go_simp; done) | (go_simp; rfl)); (case hp => exact (Reps.one (show Kd.M Kd.string _ _ _ (⟨#[]⟩ : ByteArray) [.string (⟨#[]⟩ : ByteArray)] from rfl) (Reps.one (show Kd.M Kd.string _ _ _ (⟨#[119]⟩ : ByteArray) [.string (⟨#[119]⟩ : ByteArray)] from rfl) (Reps.one (show Kd.M Kd.string _ _ _ (⟨#[119, 50]⟩ : ByteArray) [.string (⟨#[119, 50]⟩ : ByteArray)] from rfl) (Reps.one (show Kd.M Kd.string _ _ _ (⟨#[119, 51]⟩ : ByteArray) [.string (⟨#[119, 51]⟩ : ByteArray)] from rfl) (Reps.none _ _)))))); intro v189 w41 ho42 hb hg_ hnew_; clear hg_ hnew_; (first | rw [← Ny188.out] at ho42 | (simp only [Int.reduceToNat] at ho42; rw [← Ny188.out] at ho42)); have n0_ := Aside0.mk (Kd.R_below (by (with_reducible repeat (first | apply Kd.R_alloc | apply Kd.R_drewN | apply Kd.R_drew)); exact HO_4.out) hb); have n1_ := Aside0.mk (Kd.R_lower ho42 (below_size (by repeat (first | (with_reducible first | exact HB.out | apply below_alloc | apply pw_below_drewN | apply below_drew1 | refine below_set ?_ GE171.out) | exact HB.out)))); have n2_ := Aside0.mk (blk_below (g := gb171) (o := .cells #[.int .i64 a0_0, .int .i64 a0_1, .int .i64 a0_2, .int .i64 a0_3, .int .i64 a0_4] 23 (0, 0)) (by (with_reducible repeat (first | refine blk_drewN ?_ _ | refine blk_drew ?_ | refine blk_alloc ?_ _)); exact BK171.out) hb); have n3_ := Aside0.mk (below_step (by repeat (first | (with_reducible first | exact HB.out | apply below_alloc | apply pw_below_drewN | apply below_drew1 | refine below_set ?_ GE171.out) | exact HB.out)) hb); clear HO_4; clear BK171; clear HB; have HO_4 := n0_; have HO190 := n1_; have BK171 := n2_; have HB := n3_; clear n0_ n1_ n2_ n3_; clear hb ho42; obtain ⟨Ao43, co43, eo43⟩ := Kd.R_slice HO190.out; subst eo43; have p191 : 0 ≤ (x5_1 : Int) := of_decide_eq_true (by first | (with_reducible assumption) | assumption); have q191 : x5_1 < (y188.length : Int) := of_decide_eq_true (by first | (with_reducible assumption) | assumption); obtain ⟨ad191, e191, hx191_0⟩ := Kd.at_string (Kd.R_reads' HO190.out).2.2 x5_1 p191 q191; cases e191; replace p191 := eq_true p191; replace q191 := eq_true q191))
                            go_roundg k1
                            case measure => have := HK1.out; omega
                            case rel => exact ⟨(((x3_1 ++ (⟨#[45]⟩ : ByteArray)) ++ t187) ++ (rdOf ByteArray.empty y188 x5_1)), (wrap64 (x5_1 + 1)), (by first | rfl | (simp; done) | (simp [*]; done)), (by first | rfl | (simp; done) | (simp [*]; done)), H', ⟨by have := HK1.out; omega⟩, ⟨by (with_reducible repeat (first | apply Kd.R_alloc | apply Kd.R_drewN | apply Kd.R_drew)); exact HO_4.out⟩, ⟨by (with_reducible repeat (first | refine blk_drewN ?_ _ | refine blk_drew ?_ | refine blk_alloc ?_ _)); exact BK171.out⟩, ⟨by repeat (first | (with_reducible first | exact HB.out | apply below_alloc | apply pw_below_drewN | apply below_drew1 | refine below_set ?_ GE171.out) | exact HB.out)⟩⟩
                          · rw [if_neg c39] at H
                            exact absurd H (by simp)
                        · rw [if_neg c38] at H
                          exact absurd H (by simp)
                      · rw [if_neg c37] at H
                        exact absurd H (by simp)
                  · rw [if_neg c19] at H
                    exact absurd H (by simp)
                · rw [if_neg c18] at H
                  have c18b0 : decide ((rd y173 x5_1) < 0) = false := decide_eq_false c18
                  clear c18
                  by_cases c44 : x3_1.toList = ([] : List UInt8)
                  · rw [if_pos c44] at H
                    have c44b0 : (x3_1.toList == ([] : List UInt8)) = true := beq_iff_eq.mpr c44
                    have c44b1 : (x3_1.toList != ([] : List UInt8)) = false := bne_eq_false_iff_eq.mpr c44
                    clear c44
                    by_cases c45 : (rd y173 x5_1) = 1
                    · rw [if_pos c45] at H
                      have c45b0 : ((rd y173 x5_1) == 1) = true := beq_iff_eq.mpr c45
                      have c45b1 : ((rd y173 x5_1) != 1) = false := bne_eq_false_iff_eq.mpr c45
                      clear c45
                      by_cases c46 : x5_1 = 0
                      · rw [if_pos c46] at H
                        have c46b0 : (x5_1 == 0) = true := beq_iff_eq.mpr c46
                        have c46b1 : (x5_1 != 0) = false := bne_eq_false_iff_eq.mpr c46
                        clear c46
                        replace H := Option.bind_eq_some_iff.mp H
                        obtain ⟨t192, A470, H⟩ := H
                        replace H : (if x3_1.size + t192.size ≤ 9223372036854775807 then ((some (([(⟨#[]⟩ : ByteArray), (⟨#[119]⟩ : ByteArray), (⟨#[119, 50]⟩ : ByteArray), (⟨#[119, 51]⟩ : ByteArray)] : List ByteArray) : List ByteArray)).bind fun y193 => (if x5_1 < (y193.length : Int) then (if (x3_1 ++ t192).size + (rdOf ByteArray.empty y193 x5_1).size ≤ 9223372036854775807 then (spoondriftref01_text.l0 k1 ((x3_1 ++ t192) ++ (rdOf ByteArray.empty y193 x5_1)) y173 (wrap64 (x5_1 + 1)) a0_0 a0_1 a0_2 a0_3 a0_4) else (none)) else (none))) else (none)) = some r := H
                        have A47 := Aside0.mk A470
                        clear A470
                        by_cases c48 : x3_1.size + t192.size ≤ 9223372036854775807
                        · rw [if_pos c48] at H
                          have c48b0 := eq_true c48
                          have c48b1 : decide (x3_1.size + t192.size ≤ 9223372036854775807) = true := decide_eq_true c48
                          try have c48b2 : (9223372036854775807 < x3_1.size + t192.size) = False := eq_false (Nat.not_lt.2 c48)
                          try (have c48b3 := Nat.not_lt.2 c48; simp only [ByteArray.size_append] at c48b3; replace c48b3 := eq_false c48b3)
                          obtain ⟨y193, hy193⟩ : ∃ y_ : List ByteArray, y_ = (([(⟨#[]⟩ : ByteArray), (⟨#[119]⟩ : ByteArray), (⟨#[119, 50]⟩ : ByteArray), (⟨#[119, 51]⟩ : ByteArray)] : List ByteArray)) := ⟨_, rfl⟩
                          replace H : (if x5_1 < (y193.length : Int) then (if (x3_1 ++ t192).size + (rdOf ByteArray.empty y193 x5_1).size ≤ 9223372036854775807 then (spoondriftref01_text.l0 k1 ((x3_1 ++ t192) ++ (rdOf ByteArray.empty y193 x5_1)) y173 (wrap64 (x5_1 + 1)) a0_0 a0_1 a0_2 a0_3 a0_4) else (none)) else (none)) = some r := by first | (rw [hy193]; with_reducible exact H) | (have H2_ := (Option.bind_some _ _).symm.trans H; rw [hy193]; with_reducible exact H2_) | (have H2_ := (Option.bind_some _ _).symm.trans H; with_reducible exact H2_) | with_reducible exact H | (rw [hy193]; exact H) | exact H
                          have Ny193 := Aside0.mk hy193
                          clear hy193
                          by_cases c49 : x5_1 < (y193.length : Int)
                          · rw [if_pos c49] at H
                            have c49b0 : decide (x5_1 < (y193.length : Int)) = true := decide_eq_true c49
                            clear c49
                            by_cases c50 : (x3_1 ++ t192).size + (rdOf ByteArray.empty y193 x5_1).size ≤ 9223372036854775807
                            · rw [if_pos c50] at H
                              have c50b0 := eq_true c50
                              have c50b1 : decide ((x3_1 ++ t192).size + (rdOf ByteArray.empty y193 x5_1).size ≤ 9223372036854775807) = true := decide_eq_true c50
                              try have c50b2 : (9223372036854775807 < (x3_1 ++ t192).size + (rdOf ByteArray.empty y193 x5_1).size) = False := eq_false (Nat.not_lt.2 c50)
                              try (have c50b3 := Nat.not_lt.2 c50; simp only [ByteArray.size_append] at c50b3; replace c50b3 := eq_false c50b3)
                              have H' := Aside0.mk H
                              clear H
                              obtain ⟨Ao51, co51, eo51⟩ := Kd.R_slice HO_4.out
                              subst eo51
                              have p177 : 0 ≤ (x5_1 : Int) := of_decide_eq_true (by first | (with_reducible assumption) | assumption)
                              have q177 : x5_1 < (y173.length : Int) := of_decide_eq_true (by first | (with_reducible assumption) | assumption)
                              obtain ⟨ad177, e177, hx177_0⟩ := Kd.at_int (Kd.R_reads' HO_4.out).2.2 x5_1 p177 q177
                              cases e177
                              replace p177 := eq_true p177
                              replace q177 := eq_true q177
                              go_wp2_with (first | ((with_reducible refine gate_callee (f := 87) rfl ?_); refine goesL_ (some 46) rfl rfl Tryd.func87 (by kernel_rfl) rfl #[.int .i64 (rd y173 x5_1)] rfl (by (try simp only [List.map_toArray, List.map_cons, List.map_nil]); first | done | rfl | (simp only [List.length_drop, List.length_take]; rfl)) ?_; (with_reducible refine (spoondriftref01_digits.calls k1 (rd y173 x5_1) t192 _ A47.out).mono ?_); rintro e w' ⟨rfl, ⟨nd, rfl⟩⟩; refine ⟨_, rfl, ?_⟩) | ((with_reducible refine gate_dst (N := 49) rfl ?_); refine Kd.R_lit Kd.string _ 9 ?hg (N := 49) ?hd (xs := ([(⟨#[]⟩ : ByteArray), (⟨#[119]⟩ : ByteArray), (⟨#[119, 50]⟩ : ByteArray), (⟨#[119, 51]⟩ : ByteArray)] : List ByteArray)) (inner := [.string (⟨#[]⟩ : ByteArray), .string (⟨#[119]⟩ : ByteArray), .string (⟨#[119, 50]⟩ : ByteArray), .string (⟨#[119, 51]⟩ : ByteArray)]) (ok := fun _ => True) (okp := fun _ => True) ?hr ?hp (fun _ hk => hk) trivial (Below.refl _ _) (Nat.le_refl _) (by simp) ?_; (case hd => rfl); (case hg => rfl); (case hr => first | (go_simp; done) | (go_simp; rfl)); (case hp => exact (Reps.one (show Kd.M Kd.string _ _ _ (⟨#[]⟩ : ByteArray) [.string (⟨#[]⟩ : ByteArray)] from rfl) (Reps.one (show Kd.M Kd.string _ _ _ (⟨#[119]⟩ : ByteArray) [.string (⟨#[119]⟩ : ByteArray)] from rfl) (Reps.one (show Kd.M Kd.string _ _ _ (⟨#[119, 50]⟩ : ByteArray) [.string (⟨#[119, 50]⟩ : ByteArray)] from rfl) (Reps.one (show Kd.M Kd.string _ _ _ (⟨#[119, 51]⟩ : ByteArray) [.string (⟨#[119, 51]⟩ : ByteArray)] from rfl) (Reps.none _ _)))))); intro v194 w52 ho53 hb hg_ hnew_; clear hg_ hnew_; (first | rw [← Ny193.out] at ho53 | (simp only [Int.reduceToNat] at ho53; rw [← Ny193.out] at ho53)); have n0_ := Aside0.mk (Kd.R_below (by (with_reducible repeat (first | apply Kd.R_alloc | apply Kd.R_drewN | apply Kd.R_drew)); exact HO_4.out) hb); have n1_ := Aside0.mk (Kd.R_lower ho53 (below_size (by repeat (first | (with_reducible first | exact HB.out | apply below_alloc | apply pw_below_drewN | apply below_drew1 | refine below_set ?_ GE171.out) | exact HB.out)))); have n2_ := Aside0.mk (blk_below (g := gb171) (o := .cells #[.int .i64 a0_0, .int .i64 a0_1, .int .i64 a0_2, .int .i64 a0_3, .int .i64 a0_4] 23 (0, 0)) (by (with_reducible repeat (first | refine blk_drewN ?_ _ | refine blk_drew ?_ | refine blk_alloc ?_ _)); exact BK171.out) hb); have n3_ := Aside0.mk (below_step (by repeat (first | (with_reducible first | exact HB.out | apply below_alloc | apply pw_below_drewN | apply below_drew1 | refine below_set ?_ GE171.out) | exact HB.out)) hb); clear HO_4; clear BK171; clear HB; have HO_4 := n0_; have HO195 := n1_; have BK171 := n2_; have HB := n3_; clear n0_ n1_ n2_ n3_; clear hb ho53; obtain ⟨Ao54, co54, eo54⟩ := Kd.R_slice HO195.out; subst eo54; have p196 : 0 ≤ (x5_1 : Int) := of_decide_eq_true (by first | (with_reducible assumption) | assumption); have q196 : x5_1 < (y193.length : Int) := of_decide_eq_true (by first | (with_reducible assumption) | assumption); obtain ⟨ad196, e196, hx196_0⟩ := Kd.at_string (Kd.R_reads' HO195.out).2.2 x5_1 p196 q196; cases e196; replace p196 := eq_true p196; replace q196 := eq_true q196))
                              go_roundg k1
                              case measure => have := HK1.out; omega
                              case rel => exact ⟨((x3_1 ++ t192) ++ (rdOf ByteArray.empty y193 x5_1)), (wrap64 (x5_1 + 1)), (by first | rfl | (simp; done) | (simp [*]; done)), (by first | rfl | (simp; done) | (simp [*]; done)), H', ⟨by have := HK1.out; omega⟩, ⟨by (with_reducible repeat (first | apply Kd.R_alloc | apply Kd.R_drewN | apply Kd.R_drew)); exact HO_4.out⟩, ⟨by (with_reducible repeat (first | refine blk_drewN ?_ _ | refine blk_drew ?_ | refine blk_alloc ?_ _)); exact BK171.out⟩, ⟨by repeat (first | (with_reducible first | exact HB.out | apply below_alloc | apply pw_below_drewN | apply below_drew1 | refine below_set ?_ GE171.out) | exact HB.out)⟩⟩
                            · rw [if_neg c50] at H
                              exact absurd H (by simp)
                          · rw [if_neg c49] at H
                            exact absurd H (by simp)
                        · rw [if_neg c48] at H
                          exact absurd H (by simp)
                      · rw [if_neg c46] at H
                        have c46b0 : (x5_1 == 0) = false := beq_eq_false_iff_ne.mpr c46
                        have c46b1 : (x5_1 != 0) = true := bne_iff_ne.mpr c46
                        obtain ⟨y197, hy197⟩ : ∃ y_ : List ByteArray, y_ = (([(⟨#[]⟩ : ByteArray), (⟨#[119]⟩ : ByteArray), (⟨#[119, 50]⟩ : ByteArray), (⟨#[119, 51]⟩ : ByteArray)] : List ByteArray)) := ⟨_, rfl⟩
                        replace H : (if x5_1 < (y197.length : Int) then (if x3_1.size + (rdOf ByteArray.empty y197 x5_1).size ≤ 9223372036854775807 then (spoondriftref01_text.l0 k1 (x3_1 ++ (rdOf ByteArray.empty y197 x5_1)) y173 (wrap64 (x5_1 + 1)) a0_0 a0_1 a0_2 a0_3 a0_4) else (none)) else (none)) = some r := by first | (rw [hy197]; with_reducible exact H) | (have H2_ := (Option.bind_some _ _).symm.trans H; rw [hy197]; with_reducible exact H2_) | (have H2_ := (Option.bind_some _ _).symm.trans H; with_reducible exact H2_) | with_reducible exact H | (rw [hy197]; exact H) | exact H
                        have Ny197 := Aside0.mk hy197
                        clear hy197
                        by_cases c55 : x5_1 < (y197.length : Int)
                        · rw [if_pos c55] at H
                          have c55b0 : decide (x5_1 < (y197.length : Int)) = true := decide_eq_true c55
                          clear c55
                          by_cases c56 : x3_1.size + (rdOf ByteArray.empty y197 x5_1).size ≤ 9223372036854775807
                          · rw [if_pos c56] at H
                            have c56b0 := eq_true c56
                            have c56b1 : decide (x3_1.size + (rdOf ByteArray.empty y197 x5_1).size ≤ 9223372036854775807) = true := decide_eq_true c56
                            try have c56b2 : (9223372036854775807 < x3_1.size + (rdOf ByteArray.empty y197 x5_1).size) = False := eq_false (Nat.not_lt.2 c56)
                            try (have c56b3 := Nat.not_lt.2 c56; simp only [ByteArray.size_append] at c56b3; replace c56b3 := eq_false c56b3)
                            have H' := Aside0.mk H
                            clear H
                            obtain ⟨Ao57, co57, eo57⟩ := Kd.R_slice HO_4.out
                            subst eo57
                            have p177 : 0 ≤ (x5_1 : Int) := of_decide_eq_true (by first | (with_reducible assumption) | assumption)
                            have q177 : x5_1 < (y173.length : Int) := of_decide_eq_true (by first | (with_reducible assumption) | assumption)
                            obtain ⟨ad177, e177, hx177_0⟩ := Kd.at_int (Kd.R_reads' HO_4.out).2.2 x5_1 p177 q177
                            cases e177
                            replace p177 := eq_true p177
                            replace q177 := eq_true q177
                            go_wp2_with (first | ((with_reducible refine gate_dst (N := 49) rfl ?_); refine Kd.R_lit Kd.string _ 9 ?hg (N := 49) ?hd (xs := ([(⟨#[]⟩ : ByteArray), (⟨#[119]⟩ : ByteArray), (⟨#[119, 50]⟩ : ByteArray), (⟨#[119, 51]⟩ : ByteArray)] : List ByteArray)) (inner := [.string (⟨#[]⟩ : ByteArray), .string (⟨#[119]⟩ : ByteArray), .string (⟨#[119, 50]⟩ : ByteArray), .string (⟨#[119, 51]⟩ : ByteArray)]) (ok := fun _ => True) (okp := fun _ => True) ?hr ?hp (fun _ hk => hk) trivial (Below.refl _ _) (Nat.le_refl _) (by simp) ?_; (case hd => rfl); (case hg => rfl); (case hr => first | (go_simp; done) | (go_simp; rfl)); (case hp => exact (Reps.one (show Kd.M Kd.string _ _ _ (⟨#[]⟩ : ByteArray) [.string (⟨#[]⟩ : ByteArray)] from rfl) (Reps.one (show Kd.M Kd.string _ _ _ (⟨#[119]⟩ : ByteArray) [.string (⟨#[119]⟩ : ByteArray)] from rfl) (Reps.one (show Kd.M Kd.string _ _ _ (⟨#[119, 50]⟩ : ByteArray) [.string (⟨#[119, 50]⟩ : ByteArray)] from rfl) (Reps.one (show Kd.M Kd.string _ _ _ (⟨#[119, 51]⟩ : ByteArray) [.string (⟨#[119, 51]⟩ : ByteArray)] from rfl) (Reps.none _ _)))))); intro v198 w58 ho59 hb hg_ hnew_; clear hg_ hnew_; (first | rw [← Ny197.out] at ho59 | (simp only [Int.reduceToNat] at ho59; rw [← Ny197.out] at ho59)); have n0_ := Aside0.mk (Kd.R_below (by (with_reducible repeat (first | apply Kd.R_alloc | apply Kd.R_drewN | apply Kd.R_drew)); exact HO_4.out) hb); have n1_ := Aside0.mk (Kd.R_lower ho59 (below_size (by repeat (first | (with_reducible first | exact HB.out | apply below_alloc | apply pw_below_drewN | apply below_drew1 | refine below_set ?_ GE171.out) | exact HB.out)))); have n2_ := Aside0.mk (blk_below (g := gb171) (o := .cells #[.int .i64 a0_0, .int .i64 a0_1, .int .i64 a0_2, .int .i64 a0_3, .int .i64 a0_4] 23 (0, 0)) (by (with_reducible repeat (first | refine blk_drewN ?_ _ | refine blk_drew ?_ | refine blk_alloc ?_ _)); exact BK171.out) hb); have n3_ := Aside0.mk (below_step (by repeat (first | (with_reducible first | exact HB.out | apply below_alloc | apply pw_below_drewN | apply below_drew1 | refine below_set ?_ GE171.out) | exact HB.out)) hb); clear HO_4; clear BK171; clear HB; have HO_4 := n0_; have HO199 := n1_; have BK171 := n2_; have HB := n3_; clear n0_ n1_ n2_ n3_; clear hb ho59; obtain ⟨Ao60, co60, eo60⟩ := Kd.R_slice HO199.out; subst eo60; have p200 : 0 ≤ (x5_1 : Int) := of_decide_eq_true (by first | (with_reducible assumption) | assumption); have q200 : x5_1 < (y197.length : Int) := of_decide_eq_true (by first | (with_reducible assumption) | assumption); obtain ⟨ad200, e200, hx200_0⟩ := Kd.at_string (Kd.R_reads' HO199.out).2.2 x5_1 p200 q200; cases e200; replace p200 := eq_true p200; replace q200 := eq_true q200))
                            go_roundg k1
                            case measure => have := HK1.out; omega
                            case rel => exact ⟨(x3_1 ++ (rdOf ByteArray.empty y197 x5_1)), (wrap64 (x5_1 + 1)), (by first | rfl | (simp; done) | (simp [*]; done)), (by first | rfl | (simp; done) | (simp [*]; done)), H', ⟨by have := HK1.out; omega⟩, ⟨by (with_reducible repeat (first | apply Kd.R_alloc | apply Kd.R_drewN | apply Kd.R_drew)); exact HO_4.out⟩, ⟨by (with_reducible repeat (first | refine blk_drewN ?_ _ | refine blk_drew ?_ | refine blk_alloc ?_ _)); exact BK171.out⟩, ⟨by repeat (first | (with_reducible first | exact HB.out | apply below_alloc | apply pw_below_drewN | apply below_drew1 | refine below_set ?_ GE171.out) | exact HB.out)⟩⟩
                          · rw [if_neg c56] at H
                            exact absurd H (by simp)
                        · rw [if_neg c55] at H
                          exact absurd H (by simp)
                    · rw [if_neg c45] at H
                      have c45b0 : ((rd y173 x5_1) == 1) = false := beq_eq_false_iff_ne.mpr c45
                      have c45b1 : ((rd y173 x5_1) != 1) = true := bne_iff_ne.mpr c45
                      replace H := Option.bind_eq_some_iff.mp H
                      obtain ⟨t201, A610, H⟩ := H
                      replace H : (if x3_1.size + t201.size ≤ 9223372036854775807 then ((some (([(⟨#[]⟩ : ByteArray), (⟨#[119]⟩ : ByteArray), (⟨#[119, 50]⟩ : ByteArray), (⟨#[119, 51]⟩ : ByteArray)] : List ByteArray) : List ByteArray)).bind fun y202 => (if x5_1 < (y202.length : Int) then (if (x3_1 ++ t201).size + (rdOf ByteArray.empty y202 x5_1).size ≤ 9223372036854775807 then (spoondriftref01_text.l0 k1 ((x3_1 ++ t201) ++ (rdOf ByteArray.empty y202 x5_1)) y173 (wrap64 (x5_1 + 1)) a0_0 a0_1 a0_2 a0_3 a0_4) else (none)) else (none))) else (none)) = some r := H
                      have A61 := Aside0.mk A610
                      clear A610
                      by_cases c62 : x3_1.size + t201.size ≤ 9223372036854775807
                      · rw [if_pos c62] at H
                        have c62b0 := eq_true c62
                        have c62b1 : decide (x3_1.size + t201.size ≤ 9223372036854775807) = true := decide_eq_true c62
                        try have c62b2 : (9223372036854775807 < x3_1.size + t201.size) = False := eq_false (Nat.not_lt.2 c62)
                        try (have c62b3 := Nat.not_lt.2 c62; simp only [ByteArray.size_append] at c62b3; replace c62b3 := eq_false c62b3)
                        obtain ⟨y202, hy202⟩ : ∃ y_ : List ByteArray, y_ = (([(⟨#[]⟩ : ByteArray), (⟨#[119]⟩ : ByteArray), (⟨#[119, 50]⟩ : ByteArray), (⟨#[119, 51]⟩ : ByteArray)] : List ByteArray)) := ⟨_, rfl⟩
                        replace H : (if x5_1 < (y202.length : Int) then (if (x3_1 ++ t201).size + (rdOf ByteArray.empty y202 x5_1).size ≤ 9223372036854775807 then (spoondriftref01_text.l0 k1 ((x3_1 ++ t201) ++ (rdOf ByteArray.empty y202 x5_1)) y173 (wrap64 (x5_1 + 1)) a0_0 a0_1 a0_2 a0_3 a0_4) else (none)) else (none)) = some r := by first | (rw [hy202]; with_reducible exact H) | (have H2_ := (Option.bind_some _ _).symm.trans H; rw [hy202]; with_reducible exact H2_) | (have H2_ := (Option.bind_some _ _).symm.trans H; with_reducible exact H2_) | with_reducible exact H | (rw [hy202]; exact H) | exact H
                        have Ny202 := Aside0.mk hy202
                        clear hy202
                        by_cases c63 : x5_1 < (y202.length : Int)
                        · rw [if_pos c63] at H
                          have c63b0 : decide (x5_1 < (y202.length : Int)) = true := decide_eq_true c63
                          clear c63
                          by_cases c64 : (x3_1 ++ t201).size + (rdOf ByteArray.empty y202 x5_1).size ≤ 9223372036854775807
                          · rw [if_pos c64] at H
                            have c64b0 := eq_true c64
                            have c64b1 : decide ((x3_1 ++ t201).size + (rdOf ByteArray.empty y202 x5_1).size ≤ 9223372036854775807) = true := decide_eq_true c64
                            try have c64b2 : (9223372036854775807 < (x3_1 ++ t201).size + (rdOf ByteArray.empty y202 x5_1).size) = False := eq_false (Nat.not_lt.2 c64)
                            try (have c64b3 := Nat.not_lt.2 c64; simp only [ByteArray.size_append] at c64b3; replace c64b3 := eq_false c64b3)
                            have H' := Aside0.mk H
                            clear H
                            obtain ⟨Ao65, co65, eo65⟩ := Kd.R_slice HO_4.out
                            subst eo65
                            have p177 : 0 ≤ (x5_1 : Int) := of_decide_eq_true (by first | (with_reducible assumption) | assumption)
                            have q177 : x5_1 < (y173.length : Int) := of_decide_eq_true (by first | (with_reducible assumption) | assumption)
                            obtain ⟨ad177, e177, hx177_0⟩ := Kd.at_int (Kd.R_reads' HO_4.out).2.2 x5_1 p177 q177
                            cases e177
                            replace p177 := eq_true p177
                            replace q177 := eq_true q177
                            go_wp2_with (first | ((with_reducible refine gate_callee (f := 87) rfl ?_); refine goesL_ (some 46) rfl rfl Tryd.func87 (by kernel_rfl) rfl #[.int .i64 (rd y173 x5_1)] rfl (by (try simp only [List.map_toArray, List.map_cons, List.map_nil]); first | done | rfl | (simp only [List.length_drop, List.length_take]; rfl)) ?_; (with_reducible refine (spoondriftref01_digits.calls k1 (rd y173 x5_1) t201 _ A61.out).mono ?_); rintro e w' ⟨rfl, ⟨nd, rfl⟩⟩; refine ⟨_, rfl, ?_⟩) | ((with_reducible refine gate_dst (N := 49) rfl ?_); refine Kd.R_lit Kd.string _ 9 ?hg (N := 49) ?hd (xs := ([(⟨#[]⟩ : ByteArray), (⟨#[119]⟩ : ByteArray), (⟨#[119, 50]⟩ : ByteArray), (⟨#[119, 51]⟩ : ByteArray)] : List ByteArray)) (inner := [.string (⟨#[]⟩ : ByteArray), .string (⟨#[119]⟩ : ByteArray), .string (⟨#[119, 50]⟩ : ByteArray), .string (⟨#[119, 51]⟩ : ByteArray)]) (ok := fun _ => True) (okp := fun _ => True) ?hr ?hp (fun _ hk => hk) trivial (Below.refl _ _) (Nat.le_refl _) (by simp) ?_; (case hd => rfl); (case hg => rfl); (case hr => first | (go_simp; done) | (go_simp; rfl)); (case hp => exact (Reps.one (show Kd.M Kd.string _ _ _ (⟨#[]⟩ : ByteArray) [.string (⟨#[]⟩ : ByteArray)] from rfl) (Reps.one (show Kd.M Kd.string _ _ _ (⟨#[119]⟩ : ByteArray) [.string (⟨#[119]⟩ : ByteArray)] from rfl) (Reps.one (show Kd.M Kd.string _ _ _ (⟨#[119, 50]⟩ : ByteArray) [.string (⟨#[119, 50]⟩ : ByteArray)] from rfl) (Reps.one (show Kd.M Kd.string _ _ _ (⟨#[119, 51]⟩ : ByteArray) [.string (⟨#[119, 51]⟩ : ByteArray)] from rfl) (Reps.none _ _)))))); intro v203 w66 ho67 hb hg_ hnew_; clear hg_ hnew_; (first | rw [← Ny202.out] at ho67 | (simp only [Int.reduceToNat] at ho67; rw [← Ny202.out] at ho67)); have n0_ := Aside0.mk (Kd.R_below (by (with_reducible repeat (first | apply Kd.R_alloc | apply Kd.R_drewN | apply Kd.R_drew)); exact HO_4.out) hb); have n1_ := Aside0.mk (Kd.R_lower ho67 (below_size (by repeat (first | (with_reducible first | exact HB.out | apply below_alloc | apply pw_below_drewN | apply below_drew1 | refine below_set ?_ GE171.out) | exact HB.out)))); have n2_ := Aside0.mk (blk_below (g := gb171) (o := .cells #[.int .i64 a0_0, .int .i64 a0_1, .int .i64 a0_2, .int .i64 a0_3, .int .i64 a0_4] 23 (0, 0)) (by (with_reducible repeat (first | refine blk_drewN ?_ _ | refine blk_drew ?_ | refine blk_alloc ?_ _)); exact BK171.out) hb); have n3_ := Aside0.mk (below_step (by repeat (first | (with_reducible first | exact HB.out | apply below_alloc | apply pw_below_drewN | apply below_drew1 | refine below_set ?_ GE171.out) | exact HB.out)) hb); clear HO_4; clear BK171; clear HB; have HO_4 := n0_; have HO204 := n1_; have BK171 := n2_; have HB := n3_; clear n0_ n1_ n2_ n3_; clear hb ho67; obtain ⟨Ao68, co68, eo68⟩ := Kd.R_slice HO204.out; subst eo68; have p205 : 0 ≤ (x5_1 : Int) := of_decide_eq_true (by first | (with_reducible assumption) | assumption); have q205 : x5_1 < (y202.length : Int) := of_decide_eq_true (by first | (with_reducible assumption) | assumption); obtain ⟨ad205, e205, hx205_0⟩ := Kd.at_string (Kd.R_reads' HO204.out).2.2 x5_1 p205 q205; cases e205; replace p205 := eq_true p205; replace q205 := eq_true q205))
                            go_roundg k1
                            case measure => have := HK1.out; omega
                            case rel => exact ⟨((x3_1 ++ t201) ++ (rdOf ByteArray.empty y202 x5_1)), (wrap64 (x5_1 + 1)), (by first | rfl | (simp; done) | (simp [*]; done)), (by first | rfl | (simp; done) | (simp [*]; done)), H', ⟨by have := HK1.out; omega⟩, ⟨by (with_reducible repeat (first | apply Kd.R_alloc | apply Kd.R_drewN | apply Kd.R_drew)); exact HO_4.out⟩, ⟨by (with_reducible repeat (first | refine blk_drewN ?_ _ | refine blk_drew ?_ | refine blk_alloc ?_ _)); exact BK171.out⟩, ⟨by repeat (first | (with_reducible first | exact HB.out | apply below_alloc | apply pw_below_drewN | apply below_drew1 | refine below_set ?_ GE171.out) | exact HB.out)⟩⟩
                          · rw [if_neg c64] at H
                            exact absurd H (by simp)
                        · rw [if_neg c63] at H
                          exact absurd H (by simp)
                      · rw [if_neg c62] at H
                        exact absurd H (by simp)
                  · rw [if_neg c44] at H
                    have c44b0 : (x3_1.toList == ([] : List UInt8)) = false := beq_eq_false_iff_ne.mpr c44
                    have c44b1 : (x3_1.toList != ([] : List UInt8)) = true := bne_iff_ne.mpr c44
                    by_cases c69 : x3_1.size + 1 ≤ 9223372036854775807
                    · rw [if_pos c69] at H
                      have c69b0 := eq_true c69
                      have c69b1 : decide (x3_1.size + 1 ≤ 9223372036854775807) = true := decide_eq_true c69
                      try have c69b2 : (9223372036854775807 < x3_1.size + 1) = False := eq_false (Nat.not_lt.2 c69)
                      try (have c69b3 := Nat.not_lt.2 c69; simp only [ByteArray.size_append] at c69b3; replace c69b3 := eq_false c69b3)
                      by_cases c70 : (rd y173 x5_1) = 1
                      · rw [if_pos c70] at H
                        have c70b0 : ((rd y173 x5_1) == 1) = true := beq_iff_eq.mpr c70
                        have c70b1 : ((rd y173 x5_1) != 1) = false := bne_eq_false_iff_eq.mpr c70
                        clear c70
                        by_cases c71 : x5_1 = 0
                        · rw [if_pos c71] at H
                          have c71b0 : (x5_1 == 0) = true := beq_iff_eq.mpr c71
                          have c71b1 : (x5_1 != 0) = false := bne_eq_false_iff_eq.mpr c71
                          clear c71
                          replace H := Option.bind_eq_some_iff.mp H
                          obtain ⟨t206, A720, H⟩ := H
                          replace H : (if (x3_1 ++ (⟨#[43]⟩ : ByteArray)).size + t206.size ≤ 9223372036854775807 then ((some (([(⟨#[]⟩ : ByteArray), (⟨#[119]⟩ : ByteArray), (⟨#[119, 50]⟩ : ByteArray), (⟨#[119, 51]⟩ : ByteArray)] : List ByteArray) : List ByteArray)).bind fun y207 => (if x5_1 < (y207.length : Int) then (if ((x3_1 ++ (⟨#[43]⟩ : ByteArray)) ++ t206).size + (rdOf ByteArray.empty y207 x5_1).size ≤ 9223372036854775807 then (spoondriftref01_text.l0 k1 (((x3_1 ++ (⟨#[43]⟩ : ByteArray)) ++ t206) ++ (rdOf ByteArray.empty y207 x5_1)) y173 (wrap64 (x5_1 + 1)) a0_0 a0_1 a0_2 a0_3 a0_4) else (none)) else (none))) else (none)) = some r := H
                          have A72 := Aside0.mk A720
                          clear A720
                          by_cases c73 : (x3_1 ++ (⟨#[43]⟩ : ByteArray)).size + t206.size ≤ 9223372036854775807
                          · rw [if_pos c73] at H
                            have c73b0 := eq_true c73
                            have c73b1 : decide ((x3_1 ++ (⟨#[43]⟩ : ByteArray)).size + t206.size ≤ 9223372036854775807) = true := decide_eq_true c73
                            try have c73b2 : (9223372036854775807 < (x3_1 ++ (⟨#[43]⟩ : ByteArray)).size + t206.size) = False := eq_false (Nat.not_lt.2 c73)
                            try (have c73b3 := Nat.not_lt.2 c73; simp only [ByteArray.size_append, show (⟨#[43]⟩ : ByteArray).size = 1 from rfl] at c73b3; replace c73b3 := eq_false c73b3)
                            obtain ⟨y207, hy207⟩ : ∃ y_ : List ByteArray, y_ = (([(⟨#[]⟩ : ByteArray), (⟨#[119]⟩ : ByteArray), (⟨#[119, 50]⟩ : ByteArray), (⟨#[119, 51]⟩ : ByteArray)] : List ByteArray)) := ⟨_, rfl⟩
                            replace H : (if x5_1 < (y207.length : Int) then (if ((x3_1 ++ (⟨#[43]⟩ : ByteArray)) ++ t206).size + (rdOf ByteArray.empty y207 x5_1).size ≤ 9223372036854775807 then (spoondriftref01_text.l0 k1 (((x3_1 ++ (⟨#[43]⟩ : ByteArray)) ++ t206) ++ (rdOf ByteArray.empty y207 x5_1)) y173 (wrap64 (x5_1 + 1)) a0_0 a0_1 a0_2 a0_3 a0_4) else (none)) else (none)) = some r := by first | (rw [hy207]; with_reducible exact H) | (have H2_ := (Option.bind_some _ _).symm.trans H; rw [hy207]; with_reducible exact H2_) | (have H2_ := (Option.bind_some _ _).symm.trans H; with_reducible exact H2_) | with_reducible exact H | (rw [hy207]; exact H) | exact H
                            have Ny207 := Aside0.mk hy207
                            clear hy207
                            by_cases c74 : x5_1 < (y207.length : Int)
                            · rw [if_pos c74] at H
                              have c74b0 : decide (x5_1 < (y207.length : Int)) = true := decide_eq_true c74
                              clear c74
                              by_cases c75 : ((x3_1 ++ (⟨#[43]⟩ : ByteArray)) ++ t206).size + (rdOf ByteArray.empty y207 x5_1).size ≤ 9223372036854775807
                              · rw [if_pos c75] at H
                                have c75b0 := eq_true c75
                                have c75b1 : decide (((x3_1 ++ (⟨#[43]⟩ : ByteArray)) ++ t206).size + (rdOf ByteArray.empty y207 x5_1).size ≤ 9223372036854775807) = true := decide_eq_true c75
                                try have c75b2 : (9223372036854775807 < ((x3_1 ++ (⟨#[43]⟩ : ByteArray)) ++ t206).size + (rdOf ByteArray.empty y207 x5_1).size) = False := eq_false (Nat.not_lt.2 c75)
                                try (have c75b3 := Nat.not_lt.2 c75; simp only [ByteArray.size_append, show (⟨#[43]⟩ : ByteArray).size = 1 from rfl] at c75b3; replace c75b3 := eq_false c75b3)
                                have H' := Aside0.mk H
                                clear H
                                obtain ⟨Ao76, co76, eo76⟩ := Kd.R_slice HO_4.out
                                subst eo76
                                have p177 : 0 ≤ (x5_1 : Int) := of_decide_eq_true (by first | (with_reducible assumption) | assumption)
                                have q177 : x5_1 < (y173.length : Int) := of_decide_eq_true (by first | (with_reducible assumption) | assumption)
                                obtain ⟨ad177, e177, hx177_0⟩ := Kd.at_int (Kd.R_reads' HO_4.out).2.2 x5_1 p177 q177
                                cases e177
                                replace p177 := eq_true p177
                                replace q177 := eq_true q177
                                go_wp2_with (first | ((with_reducible refine gate_callee (f := 87) rfl ?_); refine goesL_ (some 46) rfl rfl Tryd.func87 (by kernel_rfl) rfl #[.int .i64 (rd y173 x5_1)] rfl (by (try simp only [List.map_toArray, List.map_cons, List.map_nil]); first | done | rfl | (simp only [List.length_drop, List.length_take]; rfl)) ?_; (with_reducible refine (spoondriftref01_digits.calls k1 (rd y173 x5_1) t206 _ A72.out).mono ?_); rintro e w' ⟨rfl, ⟨nd, rfl⟩⟩; refine ⟨_, rfl, ?_⟩) | ((with_reducible refine gate_dst (N := 49) rfl ?_); refine Kd.R_lit Kd.string _ 9 ?hg (N := 49) ?hd (xs := ([(⟨#[]⟩ : ByteArray), (⟨#[119]⟩ : ByteArray), (⟨#[119, 50]⟩ : ByteArray), (⟨#[119, 51]⟩ : ByteArray)] : List ByteArray)) (inner := [.string (⟨#[]⟩ : ByteArray), .string (⟨#[119]⟩ : ByteArray), .string (⟨#[119, 50]⟩ : ByteArray), .string (⟨#[119, 51]⟩ : ByteArray)]) (ok := fun _ => True) (okp := fun _ => True) ?hr ?hp (fun _ hk => hk) trivial (Below.refl _ _) (Nat.le_refl _) (by simp) ?_; (case hd => rfl); (case hg => rfl); (case hr => first | (go_simp; done) | (go_simp; rfl)); (case hp => exact (Reps.one (show Kd.M Kd.string _ _ _ (⟨#[]⟩ : ByteArray) [.string (⟨#[]⟩ : ByteArray)] from rfl) (Reps.one (show Kd.M Kd.string _ _ _ (⟨#[119]⟩ : ByteArray) [.string (⟨#[119]⟩ : ByteArray)] from rfl) (Reps.one (show Kd.M Kd.string _ _ _ (⟨#[119, 50]⟩ : ByteArray) [.string (⟨#[119, 50]⟩ : ByteArray)] from rfl) (Reps.one (show Kd.M Kd.string _ _ _ (⟨#[119, 51]⟩ : ByteArray) [.string (⟨#[119, 51]⟩ : ByteArray)] from rfl) (Reps.none _ _)))))); intro v208 w77 ho78 hb hg_ hnew_; clear hg_ hnew_; (first | rw [← Ny207.out] at ho78 | (simp only [Int.reduceToNat] at ho78; rw [← Ny207.out] at ho78)); have n0_ := Aside0.mk (Kd.R_below (by (with_reducible repeat (first | apply Kd.R_alloc | apply Kd.R_drewN | apply Kd.R_drew)); exact HO_4.out) hb); have n1_ := Aside0.mk (Kd.R_lower ho78 (below_size (by repeat (first | (with_reducible first | exact HB.out | apply below_alloc | apply pw_below_drewN | apply below_drew1 | refine below_set ?_ GE171.out) | exact HB.out)))); have n2_ := Aside0.mk (blk_below (g := gb171) (o := .cells #[.int .i64 a0_0, .int .i64 a0_1, .int .i64 a0_2, .int .i64 a0_3, .int .i64 a0_4] 23 (0, 0)) (by (with_reducible repeat (first | refine blk_drewN ?_ _ | refine blk_drew ?_ | refine blk_alloc ?_ _)); exact BK171.out) hb); have n3_ := Aside0.mk (below_step (by repeat (first | (with_reducible first | exact HB.out | apply below_alloc | apply pw_below_drewN | apply below_drew1 | refine below_set ?_ GE171.out) | exact HB.out)) hb); clear HO_4; clear BK171; clear HB; have HO_4 := n0_; have HO209 := n1_; have BK171 := n2_; have HB := n3_; clear n0_ n1_ n2_ n3_; clear hb ho78; obtain ⟨Ao79, co79, eo79⟩ := Kd.R_slice HO209.out; subst eo79; have p210 : 0 ≤ (x5_1 : Int) := of_decide_eq_true (by first | (with_reducible assumption) | assumption); have q210 : x5_1 < (y207.length : Int) := of_decide_eq_true (by first | (with_reducible assumption) | assumption); obtain ⟨ad210, e210, hx210_0⟩ := Kd.at_string (Kd.R_reads' HO209.out).2.2 x5_1 p210 q210; cases e210; replace p210 := eq_true p210; replace q210 := eq_true q210))
                                go_roundg k1
                                case measure => have := HK1.out; omega
                                case rel => exact ⟨(((x3_1 ++ (⟨#[43]⟩ : ByteArray)) ++ t206) ++ (rdOf ByteArray.empty y207 x5_1)), (wrap64 (x5_1 + 1)), (by first | rfl | (simp; done) | (simp [*]; done)), (by first | rfl | (simp; done) | (simp [*]; done)), H', ⟨by have := HK1.out; omega⟩, ⟨by (with_reducible repeat (first | apply Kd.R_alloc | apply Kd.R_drewN | apply Kd.R_drew)); exact HO_4.out⟩, ⟨by (with_reducible repeat (first | refine blk_drewN ?_ _ | refine blk_drew ?_ | refine blk_alloc ?_ _)); exact BK171.out⟩, ⟨by repeat (first | (with_reducible first | exact HB.out | apply below_alloc | apply pw_below_drewN | apply below_drew1 | refine below_set ?_ GE171.out) | exact HB.out)⟩⟩
                              · rw [if_neg c75] at H
                                exact absurd H (by simp)
                            · rw [if_neg c74] at H
                              exact absurd H (by simp)
                          · rw [if_neg c73] at H
                            exact absurd H (by simp)
                        · rw [if_neg c71] at H
                          have c71b0 : (x5_1 == 0) = false := beq_eq_false_iff_ne.mpr c71
                          have c71b1 : (x5_1 != 0) = true := bne_iff_ne.mpr c71
                          obtain ⟨y211, hy211⟩ : ∃ y_ : List ByteArray, y_ = (([(⟨#[]⟩ : ByteArray), (⟨#[119]⟩ : ByteArray), (⟨#[119, 50]⟩ : ByteArray), (⟨#[119, 51]⟩ : ByteArray)] : List ByteArray)) := ⟨_, rfl⟩
                          replace H : (if x5_1 < (y211.length : Int) then (if (x3_1 ++ (⟨#[43]⟩ : ByteArray)).size + (rdOf ByteArray.empty y211 x5_1).size ≤ 9223372036854775807 then (spoondriftref01_text.l0 k1 ((x3_1 ++ (⟨#[43]⟩ : ByteArray)) ++ (rdOf ByteArray.empty y211 x5_1)) y173 (wrap64 (x5_1 + 1)) a0_0 a0_1 a0_2 a0_3 a0_4) else (none)) else (none)) = some r := by first | (rw [hy211]; with_reducible exact H) | (have H2_ := (Option.bind_some _ _).symm.trans H; rw [hy211]; with_reducible exact H2_) | (have H2_ := (Option.bind_some _ _).symm.trans H; with_reducible exact H2_) | with_reducible exact H | (rw [hy211]; exact H) | exact H
                          have Ny211 := Aside0.mk hy211
                          clear hy211
                          by_cases c80 : x5_1 < (y211.length : Int)
                          · rw [if_pos c80] at H
                            have c80b0 : decide (x5_1 < (y211.length : Int)) = true := decide_eq_true c80
                            clear c80
                            by_cases c81 : (x3_1 ++ (⟨#[43]⟩ : ByteArray)).size + (rdOf ByteArray.empty y211 x5_1).size ≤ 9223372036854775807
                            · rw [if_pos c81] at H
                              have c81b0 := eq_true c81
                              have c81b1 : decide ((x3_1 ++ (⟨#[43]⟩ : ByteArray)).size + (rdOf ByteArray.empty y211 x5_1).size ≤ 9223372036854775807) = true := decide_eq_true c81
                              try have c81b2 : (9223372036854775807 < (x3_1 ++ (⟨#[43]⟩ : ByteArray)).size + (rdOf ByteArray.empty y211 x5_1).size) = False := eq_false (Nat.not_lt.2 c81)
                              try (have c81b3 := Nat.not_lt.2 c81; simp only [ByteArray.size_append, show (⟨#[43]⟩ : ByteArray).size = 1 from rfl] at c81b3; replace c81b3 := eq_false c81b3)
                              have H' := Aside0.mk H
                              clear H
                              obtain ⟨Ao82, co82, eo82⟩ := Kd.R_slice HO_4.out
                              subst eo82
                              have p177 : 0 ≤ (x5_1 : Int) := of_decide_eq_true (by first | (with_reducible assumption) | assumption)
                              have q177 : x5_1 < (y173.length : Int) := of_decide_eq_true (by first | (with_reducible assumption) | assumption)
                              obtain ⟨ad177, e177, hx177_0⟩ := Kd.at_int (Kd.R_reads' HO_4.out).2.2 x5_1 p177 q177
                              cases e177
                              replace p177 := eq_true p177
                              replace q177 := eq_true q177
                              go_wp2_with (first | ((with_reducible refine gate_dst (N := 49) rfl ?_); refine Kd.R_lit Kd.string _ 9 ?hg (N := 49) ?hd (xs := ([(⟨#[]⟩ : ByteArray), (⟨#[119]⟩ : ByteArray), (⟨#[119, 50]⟩ : ByteArray), (⟨#[119, 51]⟩ : ByteArray)] : List ByteArray)) (inner := [.string (⟨#[]⟩ : ByteArray), .string (⟨#[119]⟩ : ByteArray), .string (⟨#[119, 50]⟩ : ByteArray), .string (⟨#[119, 51]⟩ : ByteArray)]) (ok := fun _ => True) (okp := fun _ => True) ?hr ?hp (fun _ hk => hk) trivial (Below.refl _ _) (Nat.le_refl _) (by simp) ?_; (case hd => rfl); (case hg => rfl); (case hr => first | (go_simp; done) | (go_simp; rfl)); (case hp => exact (Reps.one (show Kd.M Kd.string _ _ _ (⟨#[]⟩ : ByteArray) [.string (⟨#[]⟩ : ByteArray)] from rfl) (Reps.one (show Kd.M Kd.string _ _ _ (⟨#[119]⟩ : ByteArray) [.string (⟨#[119]⟩ : ByteArray)] from rfl) (Reps.one (show Kd.M Kd.string _ _ _ (⟨#[119, 50]⟩ : ByteArray) [.string (⟨#[119, 50]⟩ : ByteArray)] from rfl) (Reps.one (show Kd.M Kd.string _ _ _ (⟨#[119, 51]⟩ : ByteArray) [.string (⟨#[119, 51]⟩ : ByteArray)] from rfl) (Reps.none _ _)))))); intro v212 w83 ho84 hb hg_ hnew_; clear hg_ hnew_; (first | rw [← Ny211.out] at ho84 | (simp only [Int.reduceToNat] at ho84; rw [← Ny211.out] at ho84)); have n0_ := Aside0.mk (Kd.R_below (by (with_reducible repeat (first | apply Kd.R_alloc | apply Kd.R_drewN | apply Kd.R_drew)); exact HO_4.out) hb); have n1_ := Aside0.mk (Kd.R_lower ho84 (below_size (by repeat (first | (with_reducible first | exact HB.out | apply below_alloc | apply pw_below_drewN | apply below_drew1 | refine below_set ?_ GE171.out) | exact HB.out)))); have n2_ := Aside0.mk (blk_below (g := gb171) (o := .cells #[.int .i64 a0_0, .int .i64 a0_1, .int .i64 a0_2, .int .i64 a0_3, .int .i64 a0_4] 23 (0, 0)) (by (with_reducible repeat (first | refine blk_drewN ?_ _ | refine blk_drew ?_ | refine blk_alloc ?_ _)); exact BK171.out) hb); have n3_ := Aside0.mk (below_step (by repeat (first | (with_reducible first | exact HB.out | apply below_alloc | apply pw_below_drewN | apply below_drew1 | refine below_set ?_ GE171.out) | exact HB.out)) hb); clear HO_4; clear BK171; clear HB; have HO_4 := n0_; have HO213 := n1_; have BK171 := n2_; have HB := n3_; clear n0_ n1_ n2_ n3_; clear hb ho84; obtain ⟨Ao85, co85, eo85⟩ := Kd.R_slice HO213.out; subst eo85; have p214 : 0 ≤ (x5_1 : Int) := of_decide_eq_true (by first | (with_reducible assumption) | assumption); have q214 : x5_1 < (y211.length : Int) := of_decide_eq_true (by first | (with_reducible assumption) | assumption); obtain ⟨ad214, e214, hx214_0⟩ := Kd.at_string (Kd.R_reads' HO213.out).2.2 x5_1 p214 q214; cases e214; replace p214 := eq_true p214; replace q214 := eq_true q214))
                              go_roundg k1
                              case measure => have := HK1.out; omega
                              case rel => exact ⟨((x3_1 ++ (⟨#[43]⟩ : ByteArray)) ++ (rdOf ByteArray.empty y211 x5_1)), (wrap64 (x5_1 + 1)), (by first | rfl | (simp; done) | (simp [*]; done)), (by first | rfl | (simp; done) | (simp [*]; done)), H', ⟨by have := HK1.out; omega⟩, ⟨by (with_reducible repeat (first | apply Kd.R_alloc | apply Kd.R_drewN | apply Kd.R_drew)); exact HO_4.out⟩, ⟨by (with_reducible repeat (first | refine blk_drewN ?_ _ | refine blk_drew ?_ | refine blk_alloc ?_ _)); exact BK171.out⟩, ⟨by repeat (first | (with_reducible first | exact HB.out | apply below_alloc | apply pw_below_drewN | apply below_drew1 | refine below_set ?_ GE171.out) | exact HB.out)⟩⟩
                            · rw [if_neg c81] at H
                              exact absurd H (by simp)
                          · rw [if_neg c80] at H
                            exact absurd H (by simp)
                      · rw [if_neg c70] at H
                        have c70b0 : ((rd y173 x5_1) == 1) = false := beq_eq_false_iff_ne.mpr c70
                        have c70b1 : ((rd y173 x5_1) != 1) = true := bne_iff_ne.mpr c70
                        replace H := Option.bind_eq_some_iff.mp H
                        obtain ⟨t215, A860, H⟩ := H
                        replace H : (if (x3_1 ++ (⟨#[43]⟩ : ByteArray)).size + t215.size ≤ 9223372036854775807 then ((some (([(⟨#[]⟩ : ByteArray), (⟨#[119]⟩ : ByteArray), (⟨#[119, 50]⟩ : ByteArray), (⟨#[119, 51]⟩ : ByteArray)] : List ByteArray) : List ByteArray)).bind fun y216 => (if x5_1 < (y216.length : Int) then (if ((x3_1 ++ (⟨#[43]⟩ : ByteArray)) ++ t215).size + (rdOf ByteArray.empty y216 x5_1).size ≤ 9223372036854775807 then (spoondriftref01_text.l0 k1 (((x3_1 ++ (⟨#[43]⟩ : ByteArray)) ++ t215) ++ (rdOf ByteArray.empty y216 x5_1)) y173 (wrap64 (x5_1 + 1)) a0_0 a0_1 a0_2 a0_3 a0_4) else (none)) else (none))) else (none)) = some r := H
                        have A86 := Aside0.mk A860
                        clear A860
                        by_cases c87 : (x3_1 ++ (⟨#[43]⟩ : ByteArray)).size + t215.size ≤ 9223372036854775807
                        · rw [if_pos c87] at H
                          have c87b0 := eq_true c87
                          have c87b1 : decide ((x3_1 ++ (⟨#[43]⟩ : ByteArray)).size + t215.size ≤ 9223372036854775807) = true := decide_eq_true c87
                          try have c87b2 : (9223372036854775807 < (x3_1 ++ (⟨#[43]⟩ : ByteArray)).size + t215.size) = False := eq_false (Nat.not_lt.2 c87)
                          try (have c87b3 := Nat.not_lt.2 c87; simp only [ByteArray.size_append, show (⟨#[43]⟩ : ByteArray).size = 1 from rfl] at c87b3; replace c87b3 := eq_false c87b3)
                          obtain ⟨y216, hy216⟩ : ∃ y_ : List ByteArray, y_ = (([(⟨#[]⟩ : ByteArray), (⟨#[119]⟩ : ByteArray), (⟨#[119, 50]⟩ : ByteArray), (⟨#[119, 51]⟩ : ByteArray)] : List ByteArray)) := ⟨_, rfl⟩
                          replace H : (if x5_1 < (y216.length : Int) then (if ((x3_1 ++ (⟨#[43]⟩ : ByteArray)) ++ t215).size + (rdOf ByteArray.empty y216 x5_1).size ≤ 9223372036854775807 then (spoondriftref01_text.l0 k1 (((x3_1 ++ (⟨#[43]⟩ : ByteArray)) ++ t215) ++ (rdOf ByteArray.empty y216 x5_1)) y173 (wrap64 (x5_1 + 1)) a0_0 a0_1 a0_2 a0_3 a0_4) else (none)) else (none)) = some r := by first | (rw [hy216]; with_reducible exact H) | (have H2_ := (Option.bind_some _ _).symm.trans H; rw [hy216]; with_reducible exact H2_) | (have H2_ := (Option.bind_some _ _).symm.trans H; with_reducible exact H2_) | with_reducible exact H | (rw [hy216]; exact H) | exact H
                          have Ny216 := Aside0.mk hy216
                          clear hy216
                          by_cases c88 : x5_1 < (y216.length : Int)
                          · rw [if_pos c88] at H
                            have c88b0 : decide (x5_1 < (y216.length : Int)) = true := decide_eq_true c88
                            clear c88
                            by_cases c89 : ((x3_1 ++ (⟨#[43]⟩ : ByteArray)) ++ t215).size + (rdOf ByteArray.empty y216 x5_1).size ≤ 9223372036854775807
                            · rw [if_pos c89] at H
                              have c89b0 := eq_true c89
                              have c89b1 : decide (((x3_1 ++ (⟨#[43]⟩ : ByteArray)) ++ t215).size + (rdOf ByteArray.empty y216 x5_1).size ≤ 9223372036854775807) = true := decide_eq_true c89
                              try have c89b2 : (9223372036854775807 < ((x3_1 ++ (⟨#[43]⟩ : ByteArray)) ++ t215).size + (rdOf ByteArray.empty y216 x5_1).size) = False := eq_false (Nat.not_lt.2 c89)
                              try (have c89b3 := Nat.not_lt.2 c89; simp only [ByteArray.size_append, show (⟨#[43]⟩ : ByteArray).size = 1 from rfl] at c89b3; replace c89b3 := eq_false c89b3)
                              have H' := Aside0.mk H
                              clear H
                              obtain ⟨Ao90, co90, eo90⟩ := Kd.R_slice HO_4.out
                              subst eo90
                              have p177 : 0 ≤ (x5_1 : Int) := of_decide_eq_true (by first | (with_reducible assumption) | assumption)
                              have q177 : x5_1 < (y173.length : Int) := of_decide_eq_true (by first | (with_reducible assumption) | assumption)
                              obtain ⟨ad177, e177, hx177_0⟩ := Kd.at_int (Kd.R_reads' HO_4.out).2.2 x5_1 p177 q177
                              cases e177
                              replace p177 := eq_true p177
                              replace q177 := eq_true q177
                              go_wp2_with (first | ((with_reducible refine gate_callee (f := 87) rfl ?_); refine goesL_ (some 46) rfl rfl Tryd.func87 (by kernel_rfl) rfl #[.int .i64 (rd y173 x5_1)] rfl (by (try simp only [List.map_toArray, List.map_cons, List.map_nil]); first | done | rfl | (simp only [List.length_drop, List.length_take]; rfl)) ?_; (with_reducible refine (spoondriftref01_digits.calls k1 (rd y173 x5_1) t215 _ A86.out).mono ?_); rintro e w' ⟨rfl, ⟨nd, rfl⟩⟩; refine ⟨_, rfl, ?_⟩) | ((with_reducible refine gate_dst (N := 49) rfl ?_); refine Kd.R_lit Kd.string _ 9 ?hg (N := 49) ?hd (xs := ([(⟨#[]⟩ : ByteArray), (⟨#[119]⟩ : ByteArray), (⟨#[119, 50]⟩ : ByteArray), (⟨#[119, 51]⟩ : ByteArray)] : List ByteArray)) (inner := [.string (⟨#[]⟩ : ByteArray), .string (⟨#[119]⟩ : ByteArray), .string (⟨#[119, 50]⟩ : ByteArray), .string (⟨#[119, 51]⟩ : ByteArray)]) (ok := fun _ => True) (okp := fun _ => True) ?hr ?hp (fun _ hk => hk) trivial (Below.refl _ _) (Nat.le_refl _) (by simp) ?_; (case hd => rfl); (case hg => rfl); (case hr => first | (go_simp; done) | (go_simp; rfl)); (case hp => exact (Reps.one (show Kd.M Kd.string _ _ _ (⟨#[]⟩ : ByteArray) [.string (⟨#[]⟩ : ByteArray)] from rfl) (Reps.one (show Kd.M Kd.string _ _ _ (⟨#[119]⟩ : ByteArray) [.string (⟨#[119]⟩ : ByteArray)] from rfl) (Reps.one (show Kd.M Kd.string _ _ _ (⟨#[119, 50]⟩ : ByteArray) [.string (⟨#[119, 50]⟩ : ByteArray)] from rfl) (Reps.one (show Kd.M Kd.string _ _ _ (⟨#[119, 51]⟩ : ByteArray) [.string (⟨#[119, 51]⟩ : ByteArray)] from rfl) (Reps.none _ _)))))); intro v217 w91 ho92 hb hg_ hnew_; clear hg_ hnew_; (first | rw [← Ny216.out] at ho92 | (simp only [Int.reduceToNat] at ho92; rw [← Ny216.out] at ho92)); have n0_ := Aside0.mk (Kd.R_below (by (with_reducible repeat (first | apply Kd.R_alloc | apply Kd.R_drewN | apply Kd.R_drew)); exact HO_4.out) hb); have n1_ := Aside0.mk (Kd.R_lower ho92 (below_size (by repeat (first | (with_reducible first | exact HB.out | apply below_alloc | apply pw_below_drewN | apply below_drew1 | refine below_set ?_ GE171.out) | exact HB.out)))); have n2_ := Aside0.mk (blk_below (g := gb171) (o := .cells #[.int .i64 a0_0, .int .i64 a0_1, .int .i64 a0_2, .int .i64 a0_3, .int .i64 a0_4] 23 (0, 0)) (by (with_reducible repeat (first | refine blk_drewN ?_ _ | refine blk_drew ?_ | refine blk_alloc ?_ _)); exact BK171.out) hb); have n3_ := Aside0.mk (below_step (by repeat (first | (with_reducible first | exact HB.out | apply below_alloc | apply pw_below_drewN | apply below_drew1 | refine below_set ?_ GE171.out) | exact HB.out)) hb); clear HO_4; clear BK171; clear HB; have HO_4 := n0_; have HO218 := n1_; have BK171 := n2_; have HB := n3_; clear n0_ n1_ n2_ n3_; clear hb ho92; obtain ⟨Ao93, co93, eo93⟩ := Kd.R_slice HO218.out; subst eo93; have p219 : 0 ≤ (x5_1 : Int) := of_decide_eq_true (by first | (with_reducible assumption) | assumption); have q219 : x5_1 < (y216.length : Int) := of_decide_eq_true (by first | (with_reducible assumption) | assumption); obtain ⟨ad219, e219, hx219_0⟩ := Kd.at_string (Kd.R_reads' HO218.out).2.2 x5_1 p219 q219; cases e219; replace p219 := eq_true p219; replace q219 := eq_true q219))
                              go_roundg k1
                              case measure => have := HK1.out; omega
                              case rel => exact ⟨(((x3_1 ++ (⟨#[43]⟩ : ByteArray)) ++ t215) ++ (rdOf ByteArray.empty y216 x5_1)), (wrap64 (x5_1 + 1)), (by first | rfl | (simp; done) | (simp [*]; done)), (by first | rfl | (simp; done) | (simp [*]; done)), H', ⟨by have := HK1.out; omega⟩, ⟨by (with_reducible repeat (first | apply Kd.R_alloc | apply Kd.R_drewN | apply Kd.R_drew)); exact HO_4.out⟩, ⟨by (with_reducible repeat (first | refine blk_drewN ?_ _ | refine blk_drew ?_ | refine blk_alloc ?_ _)); exact BK171.out⟩, ⟨by repeat (first | (with_reducible first | exact HB.out | apply below_alloc | apply pw_below_drewN | apply below_drew1 | refine below_set ?_ GE171.out) | exact HB.out)⟩⟩
                            · rw [if_neg c89] at H
                              exact absurd H (by simp)
                          · rw [if_neg c88] at H
                            exact absurd H (by simp)
                        · rw [if_neg c87] at H
                          exact absurd H (by simp)
                    · rw [if_neg c69] at H
                      exact absurd H (by simp)
            · rw [if_neg c15] at H
              exact absurd H (by simp)
          · rw [if_neg c14] at H
            exact absurd H (by simp)
        · rw [if_neg c13] at H
          have c13b0 : decide (x5_1 < 4) = false := decide_eq_false c13
          clear c13
          by_cases c94 : a0_4 > 0
          · rw [if_pos c94] at H
            have c94b0 : decide (0 < a0_4) = true := decide_eq_true c94
            clear c94
            by_cases c95 : 1 + x3_1.size ≤ 9223372036854775807
            · rw [if_pos c95] at H
              have c95b0 := eq_true c95
              have c95b1 : decide (1 + x3_1.size ≤ 9223372036854775807) = true := decide_eq_true c95
              try have c95b2 : (9223372036854775807 < 1 + x3_1.size) = False := eq_false (Nat.not_lt.2 c95)
              try (have c95b3 := Nat.not_lt.2 c95; simp only [ByteArray.size_append] at c95b3; replace c95b3 := eq_false c95b3)
              by_cases c96 : ((⟨#[40]⟩ : ByteArray) ++ x3_1).size + 3 ≤ 9223372036854775807
              · rw [if_pos c96] at H
                have c96b0 := eq_true c96
                have c96b1 : decide (((⟨#[40]⟩ : ByteArray) ++ x3_1).size + 3 ≤ 9223372036854775807) = true := decide_eq_true c96
                try have c96b2 : (9223372036854775807 < ((⟨#[40]⟩ : ByteArray) ++ x3_1).size + 3) = False := eq_false (Nat.not_lt.2 c96)
                try (have c96b3 := Nat.not_lt.2 c96; simp only [ByteArray.size_append, show (⟨#[40]⟩ : ByteArray).size = 1 from rfl] at c96b3; replace c96b3 := eq_false c96b3)
                replace H := Option.bind_eq_some_iff.mp H
                obtain ⟨t176, A970, H⟩ := H
                replace H : (if (((⟨#[40]⟩ : ByteArray) ++ x3_1) ++ (⟨#[41, 47, 114]⟩ : ByteArray)).size + t176.size ≤ 9223372036854775807 then (some ((((⟨#[40]⟩ : ByteArray) ++ x3_1) ++ (⟨#[41, 47, 114]⟩ : ByteArray)) ++ t176)) else (none)) = some r := H
                have A97 := Aside0.mk A970
                clear A970
                by_cases c98 : (((⟨#[40]⟩ : ByteArray) ++ x3_1) ++ (⟨#[41, 47, 114]⟩ : ByteArray)).size + t176.size ≤ 9223372036854775807
                · rw [if_pos c98] at H
                  have c98b0 := eq_true c98
                  have c98b1 : decide ((((⟨#[40]⟩ : ByteArray) ++ x3_1) ++ (⟨#[41, 47, 114]⟩ : ByteArray)).size + t176.size ≤ 9223372036854775807) = true := decide_eq_true c98
                  try have c98b2 : (9223372036854775807 < (((⟨#[40]⟩ : ByteArray) ++ x3_1) ++ (⟨#[41, 47, 114]⟩ : ByteArray)).size + t176.size) = False := eq_false (Nat.not_lt.2 c98)
                  try (have c98b3 := Nat.not_lt.2 c98; simp only [ByteArray.size_append, show (⟨#[40]⟩ : ByteArray).size = 1 from rfl, show (⟨#[41, 47, 114]⟩ : ByteArray).size = 3 from rfl] at c98b3; replace c98b3 := eq_false c98b3)
                  obtain rfl := Option.some.inj H
                  have hcz99_0 : wr.cell? ⟨gb171, 0, none⟩ = some (.int .i64 a0_0) := (blk_cell BK171.out 0).trans rfl
                  have hcz99_1 : wr.cell? ⟨gb171, 1, none⟩ = some (.int .i64 a0_1) := (blk_cell BK171.out 1).trans rfl
                  have hcz99_2 : wr.cell? ⟨gb171, 2, none⟩ = some (.int .i64 a0_2) := (blk_cell BK171.out 2).trans rfl
                  have hcz99_3 : wr.cell? ⟨gb171, 3, none⟩ = some (.int .i64 a0_3) := (blk_cell BK171.out 3).trans rfl
                  have hcz99_4 : wr.cell? ⟨gb171, 4, none⟩ = some (.int .i64 a0_4) := (blk_cell BK171.out 4).trans rfl
                  have hfz99_0 := blk_frozen BK171.out 0
                  have hfz99_1 := blk_frozen BK171.out 1
                  have hfz99_2 := blk_frozen BK171.out 2
                  have hfz99_3 := blk_frozen BK171.out 3
                  have hfz99_4 := blk_frozen BK171.out 4
                  go_wp2_with (first | ((with_reducible refine gate_callee (f := 87) rfl ?_); refine goesL_ (some 62) rfl rfl Tryd.func87 (by kernel_rfl) rfl #[.int .i64 a0_4] rfl (by (try simp only [List.map_toArray, List.map_cons, List.map_nil]); first | done | rfl | (simp only [List.length_drop, List.length_take]; rfl)) ?_; (with_reducible refine (spoondriftref01_digits.calls k1 a0_4 t176 _ A97.out).mono ?_); rintro e w' ⟨rfl, ⟨nd, rfl⟩⟩; refine ⟨_, rfl, ?_⟩))
                  go_ret
                  exact ⟨by first | rfl | (simp [errW_none, errW_some] <;> rfl) | (simp [*, errW_none, errW_some] <;> rfl), by repeat (first | (with_reducible first | exact HB.out | apply below_alloc | apply pw_below_drewN | apply below_drew1 | refine below_set ?_ GE171.out) | exact HB.out)⟩
                · rw [if_neg c98] at H
                  exact absurd H (by simp)
              · rw [if_neg c96] at H
                exact absurd H (by simp)
            · rw [if_neg c95] at H
              exact absurd H (by simp)
          · rw [if_neg c94] at H
            have c94b0 : decide (0 < a0_4) = false := decide_eq_false c94
            clear c94
            obtain rfl := Option.some.inj H
            have hcz100_0 : wr.cell? ⟨gb171, 0, none⟩ = some (.int .i64 a0_0) := (blk_cell BK171.out 0).trans rfl
            have hcz100_1 : wr.cell? ⟨gb171, 1, none⟩ = some (.int .i64 a0_1) := (blk_cell BK171.out 1).trans rfl
            have hcz100_2 : wr.cell? ⟨gb171, 2, none⟩ = some (.int .i64 a0_2) := (blk_cell BK171.out 2).trans rfl
            have hcz100_3 : wr.cell? ⟨gb171, 3, none⟩ = some (.int .i64 a0_3) := (blk_cell BK171.out 3).trans rfl
            have hcz100_4 : wr.cell? ⟨gb171, 4, none⟩ = some (.int .i64 a0_4) := (blk_cell BK171.out 4).trans rfl
            have hfz100_0 := blk_frozen BK171.out 0
            have hfz100_1 := blk_frozen BK171.out 1
            have hfz100_2 := blk_frozen BK171.out 2
            have hfz100_3 := blk_frozen BK171.out 3
            have hfz100_4 := blk_frozen BK171.out 4
            go_wp2
            go_ret
            exact ⟨by first | rfl | (simp [errW_none, errW_some] <;> rfl) | (simp [*, errW_none, errW_some] <;> rfl), by repeat (first | (with_reducible first | exact HB.out | apply below_alloc | apply pw_below_drewN | apply below_drew1 | refine below_set ?_ GE171.out) | exact HB.out)⟩
def spoondriftref01_Print.f (k : Nat) (a0_0 : Int) (a0_1 : Int) (a0_2 : Int) (a0_3 : Int) (a0_4 : Int) : Option (ByteArray × Int) := (spoondriftref01_Check.f k a0_0 a0_1 a0_2 a0_3 a0_4).bind fun t221 => (if t221 = 0 then ((spoondriftref01_Form.f k a0_0 a0_1 a0_2 a0_3 a0_4).bind fun bt222 => ((spoondriftref01_text.f k bt222.1 bt222.2.1 bt222.2.2.1 bt222.2.2.2.1 bt222.2.2.2.2).bind fun t227 => (some (t227, 0)))) else (some ((⟨#[]⟩ : ByteArray), t221)))
theorem spoondriftref01_Print.mono : ∀ a0 a1 a2 a3 a4 k, LeO (spoondriftref01_Print.f k a0 a1 a2 a3 a4) (spoondriftref01_Print.f (k + 1) a0 a1 a2 a3 a4) := by
  intro a0 a1 a2 a3 a4 k
  unfold spoondriftref01_Print.f
  repeat' first
      | (with_reducible exact spoondriftref01_Check.mono _ _ _ _ _ _)
      | (with_reducible exact spoondriftref01_Form.mono _ _ _ _ _ _)
      | (with_reducible exact spoondriftref01_text.mono _ _ _ _ _ _)
      | (with_reducible exact LeO.refl _)
      | (with_reducible exact LeO.none _)
      | (with_reducible refine LeO.ite ?_ ?_)
      | (with_reducible refine LeO.bind ?_ (fun _ => ?_))
      | exact spoondriftref01_Check.mono _ _ _ _ _ _
      | exact spoondriftref01_Form.mono _ _ _ _ _ _
      | exact spoondriftref01_text.mono _ _ _ _ _ _
      | exact LeO.none _
      | refine LeO.ite ?_ ?_
      | refine LeO.bind ?_ (fun _ => ?_)
set_option maxHeartbeats 8000000 in
set_option maxRecDepth 100000 in
theorem spoondriftref01_Print.calls (k : Nat) (a0_0 : Int) (a0_1 : Int) (a0_2 : Int) (a0_3 : Int) (a0_4 : Int) (r1 : ByteArray) (r2 : Int) (w : World) (h : spoondriftref01_Print.f k a0_0 a0_1 a0_2 a0_3 a0_4 = some (r1, r2)) :
    Calls Tryd.prog 16 #[.agg #[.int .i64 a0_0, .int .i64 a0_1, .int .i64 a0_2, .int .i64 a0_3, .int .i64 a0_4]] w fun e w' => e = .returned (.tuple #[.string r1, .int .i64 r2]) ∧ Below w.heap.size w w' := by
  have hu23 := Tryd.underlying23
  have HB := Aside0.mk (Below.refl w.heap.size w)
  have H : ((spoondriftref01_Check.f k a0_0 a0_1 a0_2 a0_3 a0_4).bind fun t221 => (if t221 = 0 then ((spoondriftref01_Form.f k a0_0 a0_1 a0_2 a0_3 a0_4).bind fun bt222 => ((spoondriftref01_text.f k bt222.1 bt222.2.1 bt222.2.2.1 bt222.2.2.2.1 bt222.2.2.2.2).bind fun t227 => (some (t227, 0)))) else (some ((⟨#[]⟩ : ByteArray), t221)))) = some (r1, r2) := h
  clear h
  replace H := Option.bind_eq_some_iff.mp H
  obtain ⟨t221, A20, H⟩ := H
  replace H : (if t221 = 0 then ((spoondriftref01_Form.f k a0_0 a0_1 a0_2 a0_3 a0_4).bind fun bt222 => ((spoondriftref01_text.f k bt222.1 bt222.2.1 bt222.2.2.1 bt222.2.2.2.1 bt222.2.2.2.2).bind fun t227 => (some (t227, 0)))) else (some ((⟨#[]⟩ : ByteArray), t221))) = some (r1, r2) := H
  have A2 := Aside0.mk A20
  clear A20
  by_cases c3 : t221 = 0
  · rw [if_pos c3] at H
    have c3b0 : (t221 == 0) = true := beq_iff_eq.mpr c3
    have c3b1 : (t221 != 0) = false := bne_eq_false_iff_eq.mpr c3
    clear c3
    replace H := Option.bind_eq_some_iff.mp H
    obtain ⟨⟨t222, t223, t224, t225, t226⟩, A40, H⟩ := H
    replace H : ((spoondriftref01_text.f k t222 t223 t224 t225 t226).bind fun t227 => (some (t227, 0))) = some (r1, r2) := H
    have A4 := Aside0.mk A40
    clear A40
    replace H := Option.bind_eq_some_iff.mp H
    obtain ⟨t227, A50, H⟩ := H
    replace H : (some (t227, 0)) = some (r1, r2) := H
    have A5 := Aside0.mk A50
    clear A50
    simp only [Option.some.injEq, Prod.mk.injEq] at H
    obtain ⟨rfl, rfl⟩ := H
    go_enter Tryd.func16, Tryd.ntmps16
    go_wp2_with (first | ((with_reducible refine gate_dst (N := 1) rfl ?_); refine box_event ?hg (N := 1) ?hd (cs := #[.int .i64 a0_0, .int .i64 a0_1, .int .i64 a0_2, .int .i64 a0_3, .int .i64 a0_4]) (t := 23) ?hr ?_; (case hd => rfl); (case hg => rfl); (case hr => first | (go_simp; done) | (go_simp; rfl)); intro gb220 hg w6 hbox hb; have n0_ := Aside0.mk (below_step (by repeat (first | (with_reducible first | exact HB.out | apply below_alloc | apply pw_below_drewN | apply below_drew1) | exact HB.out)) hb); have n1_ := Aside0.mk (hbox); have n2_ := Aside0.mk ((by rw [hg]; exact (below_size (by repeat (first | (with_reducible first | exact HB.out | apply below_alloc | apply pw_below_drewN | apply below_drew1) | exact HB.out))) : w.heap.size ≤ gb220)); have n3_ := Aside0.mk ((by rw [hg]; exact (below_size (by repeat (first | (with_reducible first | exact HB.out | apply below_alloc | apply pw_below_drewN | apply below_drew1) | exact HB.out))) : w.heap.size ≤ gb220)); clear HB; have HB := n0_; have BK220 := n1_; have GW220 := n2_; have GE220 := n3_; clear n0_ n1_ n2_ n3_; clear hb hbox hg; have hcz7_0 : w6.cell? ⟨gb220, 0, none⟩ = some (.int .i64 a0_0) := (blk_cell BK220.out 0).trans rfl; have hcz7_1 : w6.cell? ⟨gb220, 1, none⟩ = some (.int .i64 a0_1) := (blk_cell BK220.out 1).trans rfl; have hcz7_2 : w6.cell? ⟨gb220, 2, none⟩ = some (.int .i64 a0_2) := (blk_cell BK220.out 2).trans rfl; have hcz7_3 : w6.cell? ⟨gb220, 3, none⟩ = some (.int .i64 a0_3) := (blk_cell BK220.out 3).trans rfl; have hcz7_4 : w6.cell? ⟨gb220, 4, none⟩ = some (.int .i64 a0_4) := (blk_cell BK220.out 4).trans rfl; have hfz7_0 := blk_frozen BK220.out 0; have hfz7_1 := blk_frozen BK220.out 1; have hfz7_2 := blk_frozen BK220.out 2; have hfz7_3 := blk_frozen BK220.out 3; have hfz7_4 := blk_frozen BK220.out 4) | ((with_reducible refine gate_callee (f := 25) rfl ?_); refine goesL_ (some 6) rfl rfl Tryd.func25 (by kernel_rfl) rfl #[.agg #[.int .i64 a0_0, .int .i64 a0_1, .int .i64 a0_2, .int .i64 a0_3, .int .i64 a0_4]] rfl (by (try simp only [List.map_toArray, List.map_cons, List.map_nil]); first | done | rfl | (simp only [List.length_drop, List.length_take]; rfl)) ?_; (with_reducible refine (spoondriftref01_Check.calls k a0_0 a0_1 a0_2 a0_3 a0_4 t221 _ A2.out).mono ?_); rintro e w8 ⟨rfl, hb⟩; refine ⟨_, rfl, ?_⟩; have n0_ := Aside0.mk (blk_below (g := gb220) (o := .cells #[.int .i64 a0_0, .int .i64 a0_1, .int .i64 a0_2, .int .i64 a0_3, .int .i64 a0_4] 23 (0, 0)) (by (with_reducible repeat (first | refine blk_drewN ?_ _ | refine blk_drew ?_ | refine blk_alloc ?_ _)); exact BK220.out) hb); have n1_ := Aside0.mk (below_step (by repeat (first | (with_reducible first | exact HB.out | apply below_alloc | apply pw_below_drewN | apply below_drew1 | refine below_set ?_ GE220.out) | exact HB.out)) hb); clear BK220; clear HB; have BK220 := n0_; have HB := n1_; clear n0_ n1_; (try clear hb); (try clear hb2); (try clear hk); (try clear hi); have hcz9_0 : w8.cell? ⟨gb220, 0, none⟩ = some (.int .i64 a0_0) := (blk_cell BK220.out 0).trans rfl; have hcz9_1 : w8.cell? ⟨gb220, 1, none⟩ = some (.int .i64 a0_1) := (blk_cell BK220.out 1).trans rfl; have hcz9_2 : w8.cell? ⟨gb220, 2, none⟩ = some (.int .i64 a0_2) := (blk_cell BK220.out 2).trans rfl; have hcz9_3 : w8.cell? ⟨gb220, 3, none⟩ = some (.int .i64 a0_3) := (blk_cell BK220.out 3).trans rfl; have hcz9_4 : w8.cell? ⟨gb220, 4, none⟩ = some (.int .i64 a0_4) := (blk_cell BK220.out 4).trans rfl; have hfz9_0 := blk_frozen BK220.out 0; have hfz9_1 := blk_frozen BK220.out 1; have hfz9_2 := blk_frozen BK220.out 2; have hfz9_3 := blk_frozen BK220.out 3; have hfz9_4 := blk_frozen BK220.out 4) | ((with_reducible refine gate_callee (f := 44) rfl ?_); refine goesL_ (some 11) rfl rfl Tryd.func44 (by kernel_rfl) rfl #[.agg #[.int .i64 a0_0, .int .i64 a0_1, .int .i64 a0_2, .int .i64 a0_3, .int .i64 a0_4]] rfl (by (try simp only [List.map_toArray, List.map_cons, List.map_nil]); first | done | rfl | (simp only [List.length_drop, List.length_take]; rfl)) ?_; (with_reducible refine (spoondriftref01_Form.calls k a0_0 a0_1 a0_2 a0_3 a0_4 t222 t223 t224 t225 t226 _ A4.out).mono ?_); rintro e w10 ⟨rfl, hb⟩; refine ⟨_, rfl, ?_⟩; have n0_ := Aside0.mk (blk_below (g := gb220) (o := .cells #[.int .i64 a0_0, .int .i64 a0_1, .int .i64 a0_2, .int .i64 a0_3, .int .i64 a0_4] 23 (0, 0)) (by (with_reducible repeat (first | refine blk_drewN ?_ _ | refine blk_drew ?_ | refine blk_alloc ?_ _)); exact BK220.out) hb); have n1_ := Aside0.mk (below_step (by repeat (first | (with_reducible first | exact HB.out | apply below_alloc | apply pw_below_drewN | apply below_drew1 | refine below_set ?_ GE220.out) | exact HB.out)) hb); clear BK220; clear HB; have BK220 := n0_; have HB := n1_; clear n0_ n1_; (try clear hb); (try clear hb2); (try clear hk); (try clear hi)) | ((with_reducible refine gate_callee (f := 61) rfl ?_); refine goesL_ (some 12) rfl rfl Tryd.func61 (by kernel_rfl) rfl #[.agg #[.int .i64 t222, .int .i64 t223, .int .i64 t224, .int .i64 t225, .int .i64 t226]] rfl (by (try simp only [List.map_toArray, List.map_cons, List.map_nil]); first | done | rfl | (simp only [List.length_drop, List.length_take]; rfl)) ?_; (with_reducible refine (spoondriftref01_text.calls k t222 t223 t224 t225 t226 t227 _ A5.out).mono ?_); rintro e w11 ⟨rfl, hb⟩; refine ⟨_, rfl, ?_⟩; have n0_ := Aside0.mk (blk_below (g := gb220) (o := .cells #[.int .i64 a0_0, .int .i64 a0_1, .int .i64 a0_2, .int .i64 a0_3, .int .i64 a0_4] 23 (0, 0)) (by (with_reducible repeat (first | refine blk_drewN ?_ _ | refine blk_drew ?_ | refine blk_alloc ?_ _)); exact BK220.out) hb); have n1_ := Aside0.mk (below_step (by repeat (first | (with_reducible first | exact HB.out | apply below_alloc | apply pw_below_drewN | apply below_drew1 | refine below_set ?_ GE220.out) | exact HB.out)) hb); clear BK220; clear HB; have BK220 := n0_; have HB := n1_; clear n0_ n1_; (try clear hb); (try clear hb2); (try clear hk); (try clear hi)))
    go_ret2
    exact ⟨by first | rfl | (simp [errW_none, errW_some] <;> rfl) | (simp [*, errW_none, errW_some] <;> rfl), by repeat (first | (with_reducible first | exact HB.out | apply below_alloc | apply pw_below_drewN | apply below_drew1 | refine below_set ?_ GE220.out) | exact HB.out)⟩
  · rw [if_neg c3] at H
    have c3b0 : (t221 == 0) = false := beq_eq_false_iff_ne.mpr c3
    have c3b1 : (t221 != 0) = true := bne_iff_ne.mpr c3
    simp only [Option.some.injEq, Prod.mk.injEq] at H
    obtain ⟨rfl, rfl⟩ := H
    go_enter Tryd.func16, Tryd.ntmps16
    go_wp2_with (first | ((with_reducible refine gate_dst (N := 1) rfl ?_); refine box_event ?hg (N := 1) ?hd (cs := #[.int .i64 a0_0, .int .i64 a0_1, .int .i64 a0_2, .int .i64 a0_3, .int .i64 a0_4]) (t := 23) ?hr ?_; (case hd => rfl); (case hg => rfl); (case hr => first | (go_simp; done) | (go_simp; rfl)); intro gb220 hg w12 hbox hb; have n0_ := Aside0.mk (below_step (by repeat (first | (with_reducible first | exact HB.out | apply below_alloc | apply pw_below_drewN | apply below_drew1) | exact HB.out)) hb); have n1_ := Aside0.mk (hbox); have n2_ := Aside0.mk ((by rw [hg]; exact (below_size (by repeat (first | (with_reducible first | exact HB.out | apply below_alloc | apply pw_below_drewN | apply below_drew1) | exact HB.out))) : w.heap.size ≤ gb220)); have n3_ := Aside0.mk ((by rw [hg]; exact (below_size (by repeat (first | (with_reducible first | exact HB.out | apply below_alloc | apply pw_below_drewN | apply below_drew1) | exact HB.out))) : w.heap.size ≤ gb220)); clear HB; have HB := n0_; have BK220 := n1_; have GW220 := n2_; have GE220 := n3_; clear n0_ n1_ n2_ n3_; clear hb hbox hg; have hcz13_0 : w12.cell? ⟨gb220, 0, none⟩ = some (.int .i64 a0_0) := (blk_cell BK220.out 0).trans rfl; have hcz13_1 : w12.cell? ⟨gb220, 1, none⟩ = some (.int .i64 a0_1) := (blk_cell BK220.out 1).trans rfl; have hcz13_2 : w12.cell? ⟨gb220, 2, none⟩ = some (.int .i64 a0_2) := (blk_cell BK220.out 2).trans rfl; have hcz13_3 : w12.cell? ⟨gb220, 3, none⟩ = some (.int .i64 a0_3) := (blk_cell BK220.out 3).trans rfl; have hcz13_4 : w12.cell? ⟨gb220, 4, none⟩ = some (.int .i64 a0_4) := (blk_cell BK220.out 4).trans rfl; have hfz13_0 := blk_frozen BK220.out 0; have hfz13_1 := blk_frozen BK220.out 1; have hfz13_2 := blk_frozen BK220.out 2; have hfz13_3 := blk_frozen BK220.out 3; have hfz13_4 := blk_frozen BK220.out 4) | ((with_reducible refine gate_callee (f := 25) rfl ?_); refine goesL_ (some 6) rfl rfl Tryd.func25 (by kernel_rfl) rfl #[.agg #[.int .i64 a0_0, .int .i64 a0_1, .int .i64 a0_2, .int .i64 a0_3, .int .i64 a0_4]] rfl (by (try simp only [List.map_toArray, List.map_cons, List.map_nil]); first | done | rfl | (simp only [List.length_drop, List.length_take]; rfl)) ?_; (with_reducible refine (spoondriftref01_Check.calls k a0_0 a0_1 a0_2 a0_3 a0_4 t221 _ A2.out).mono ?_); rintro e w14 ⟨rfl, hb⟩; refine ⟨_, rfl, ?_⟩; have n0_ := Aside0.mk (blk_below (g := gb220) (o := .cells #[.int .i64 a0_0, .int .i64 a0_1, .int .i64 a0_2, .int .i64 a0_3, .int .i64 a0_4] 23 (0, 0)) (by (with_reducible repeat (first | refine blk_drewN ?_ _ | refine blk_drew ?_ | refine blk_alloc ?_ _)); exact BK220.out) hb); have n1_ := Aside0.mk (below_step (by repeat (first | (with_reducible first | exact HB.out | apply below_alloc | apply pw_below_drewN | apply below_drew1 | refine below_set ?_ GE220.out) | exact HB.out)) hb); clear BK220; clear HB; have BK220 := n0_; have HB := n1_; clear n0_ n1_; (try clear hb); (try clear hb2); (try clear hk); (try clear hi)))
    go_ret2
    exact ⟨by first | rfl | (simp [errW_none, errW_some] <;> rfl) | (simp [*, errW_none, errW_some] <;> rfl), by repeat (first | (with_reducible first | exact HB.out | apply below_alloc | apply pw_below_drewN | apply below_drew1 | refine below_set ?_ GE220.out) | exact HB.out)⟩
def spoondriftref01_number.l0 : Nat → ByteArray → Int → Int → Option (Int × Int)
  | 0, _, _, _ => none
  | k + 1, x0, x1, x6 => if x1 < (x0.size : Int) then (if 0 ≤ x1 then (if (bt x0 x1) ≥ 48 then (if (bt x0 x1) ≤ 57 then (spoondriftref01_number.l0 k x0 (wrap64 (x1 + 1)) (mn (wrap64 ((wrap64 (10 * x6)) + (((bt x0 x1) - 48) % 256))) 2147483648)) else (some (x6, x1))) else (some (x6, x1))) else (none)) else (some (x6, x1))
def spoondriftref01_number.f (k : Nat) (a0 : ByteArray) (a1 : Int) : Option (Int × Int) := spoondriftref01_number.l0 k a0 a1 0
theorem spoondriftref01_number.mono_l : ∀ k, (∀ y0 y1 y2, LeO (spoondriftref01_number.l0 k y0 y1 y2) (spoondriftref01_number.l0 (k + 1) y0 y1 y2))
  | 0 => fun _ _ _ r h => by simp [spoondriftref01_number.l0] at h
  | k + 1 => by
    have ih0 := spoondriftref01_number.mono_l k
    · intro y0 y1 y2
      unfold spoondriftref01_number.l0
      repeat' first
      | (with_reducible exact ih0 _ _ _)
      | (with_reducible exact LeO.refl _)
      | (with_reducible exact LeO.none _)
      | (with_reducible refine LeO.ite ?_ ?_)
      | (with_reducible refine LeO.bind ?_ (fun _ => ?_))
      | exact ih0 _ _ _
      | exact LeO.none _
      | refine LeO.ite ?_ ?_
      | refine LeO.bind ?_ (fun _ => ?_)
theorem spoondriftref01_number.mono : ∀ a0 a1 k, LeO (spoondriftref01_number.f k a0 a1) (spoondriftref01_number.f (k + 1) a0 a1) := by
  intro a0 a1 k
  have ih0 := spoondriftref01_number.mono_l k
  unfold spoondriftref01_number.f
  repeat' first
      | (with_reducible exact ih0 _ _ _)
      | (with_reducible exact LeO.refl _)
      | (with_reducible exact LeO.none _)
      | (with_reducible refine LeO.ite ?_ ?_)
      | (with_reducible refine LeO.bind ?_ (fun _ => ?_))
      | exact ih0 _ _ _
      | exact LeO.none _
      | refine LeO.ite ?_ ?_
      | refine LeO.bind ?_ (fun _ => ?_)
set_option maxHeartbeats 8000000 in
set_option maxRecDepth 100000 in
theorem spoondriftref01_number.calls (k : Nat) (a0 : ByteArray) (a1 : Int) (r1 : Int) (r2 : Int) (w : World) (h : spoondriftref01_number.f k a0 a1 = some (r1, r2)) :
    Calls Tryd.prog 62 #[.string a0, .int .i64 a1] w fun e w' => e = .returned (.tuple #[.int .i64 r1, .int .i64 r2]) ∧ Below w.heap.size w w' := by
  have HB := Aside0.mk (Below.refl w.heap.size w)
  have H : (spoondriftref01_number.l0 k a0 a1 0) = some (r1, r2) := h
  clear h
  have H' := Aside0.mk H
  clear H
  go_enter Tryd.func62, Tryd.ntmps62
  go_wp2
  (try simp only [Act.put, List.setIfInBounds_toArray, List.set_cons_zero, List.set_cons_succ])
  go_loopg [1, 6] k (fun kq v1 v6 w' => ∃ (x1_1 : Int) (x6_1 : Int), v1 = .int .i64 x1_1 ∧ v6 = .int .i64 x6_1 ∧ Aside0 (spoondriftref01_number.l0 kq a0 x1_1 x6_1 = some (r1, r2)) ∧ Aside0 (kq ≤ k) ∧ Aside0 (Below w.heap.size w w'))
  case atStart => exact ⟨(a1), (0), (by first | rfl | (simp; done) | (simp [*]; done)), (by first | rfl | (simp; done) | (simp [*]; done)), H', ⟨Nat.le_refl _⟩, ⟨by repeat (first | (with_reducible first | exact HB.out | apply below_alloc | apply pw_below_drewN | apply below_drew1) | exact HB.out)⟩⟩
  case round =>
    clear H'
    try clear p2
    obtain ⟨x1_1, x6_1, rfl, rfl, HA, HK1, HB⟩ := hrel
    cases gk with
    | zero => exact absurd HA.out (by simp [spoondriftref01_number.l0])
    | succ k1 =>
      have H := HA.out
      clear HA
      simp only [spoondriftref01_number.l0] at H
      by_cases c3 : x1_1 < (a0.size : Int)
      · rw [if_pos c3] at H
        have c3b0 : decide (x1_1 < (a0.size : Int)) = true := decide_eq_true c3
        clear c3
        by_cases c4 : 0 ≤ x1_1
        · rw [if_pos c4] at H
          have c4b0 : decide (0 ≤ x1_1) = true := decide_eq_true c4
          clear c4
          by_cases c6 : (bt a0 x1_1) ≥ 48
          · rw [if_pos c6] at H
            have c6b0 : decide (48 ≤ (bt a0 x1_1)) = true := decide_eq_true c6
            clear c6
            by_cases c8 : (bt a0 x1_1) ≤ 57
            · rw [if_pos c8] at H
              have c8b0 : decide ((bt a0 x1_1) ≤ 57) = true := decide_eq_true c8
              clear c8
              obtain ⟨ji10, hji10⟩ : ∃ j_ : Int, (mn (wrap64 ((wrap64 (10 * x6_1)) + (((bt a0 x1_1) - 48) % 256))) 2147483648) = j_ := ⟨_, rfl⟩
              replace H : (spoondriftref01_number.l0 k1 a0 (wrap64 (x1_1 + 1)) ji10) = some (r1, r2) := by first | (rw [hji10] at H; exact H) | (simp only [hji10] at H ⊢; exact H)
              have hji10_ : (if 2147483648 < (wrap64 ((wrap64 (10 * x6_1)) + (((bt a0 x1_1) - 48) % 256))) then 2147483648 else (wrap64 ((wrap64 (10 * x6_1)) + (((bt a0 x1_1) - 48) % 256)))) = ji10 := hji10
              have H' := Aside0.mk H
              clear H
              have p5 : 0 ≤ (x1_1 : Int) := of_decide_eq_true (by first | (with_reducible assumption) | assumption)
              have q5 : x1_1 < (a0.size : Int) := of_decide_eq_true (by first | (with_reducible assumption) | assumption)
              have hx5 := bt_at a0 x1_1
              replace p5 := eq_true p5
              replace q5 := eq_true q5
              have p7 : 0 ≤ (x1_1 : Int) := of_decide_eq_true (by first | (with_reducible assumption) | assumption)
              have q7 : x1_1 < (a0.size : Int) := of_decide_eq_true (by first | (with_reducible assumption) | assumption)
              have hx7 := bt_at a0 x1_1
              replace p7 := eq_true p7
              replace q7 := eq_true q7
              have p9 : 0 ≤ (x1_1 : Int) := of_decide_eq_true (by first | (with_reducible assumption) | assumption)
              have q9 : x1_1 < (a0.size : Int) := of_decide_eq_true (by first | (with_reducible assumption) | assumption)
              have hx9 := bt_at a0 x1_1
              replace p9 := eq_true p9
              replace q9 := eq_true q9
              go_wp2
              go_roundg k1
              case measure => have := HK1.out; omega
              case rel => exact ⟨(wrap64 (x1_1 + 1)), (ji10), (by first | rfl | (simp; done) | (simp [*]; done)), (by first | rfl | (simp; done) | (simp only [← hji10] <;> (first | rfl | simp)) | (simp [*]; done)), H', ⟨by have := HK1.out; omega⟩, ⟨by repeat (first | (with_reducible first | exact HB.out | apply below_alloc | apply pw_below_drewN | apply below_drew1) | exact HB.out)⟩⟩
            · rw [if_neg c8] at H
              have c8b0 : decide ((bt a0 x1_1) ≤ 57) = false := decide_eq_false c8
              clear c8
              simp only [Option.some.injEq, Prod.mk.injEq] at H
              obtain ⟨rfl, rfl⟩ := H
              have p5 : 0 ≤ (x1_1 : Int) := of_decide_eq_true (by first | (with_reducible assumption) | assumption)
              have q5 : x1_1 < (a0.size : Int) := of_decide_eq_true (by first | (with_reducible assumption) | assumption)
              have hx5 := bt_at a0 x1_1
              replace p5 := eq_true p5
              replace q5 := eq_true q5
              have p7 : 0 ≤ (x1_1 : Int) := of_decide_eq_true (by first | (with_reducible assumption) | assumption)
              have q7 : x1_1 < (a0.size : Int) := of_decide_eq_true (by first | (with_reducible assumption) | assumption)
              have hx7 := bt_at a0 x1_1
              replace p7 := eq_true p7
              replace q7 := eq_true q7
              go_wp2
              go_ret2
              exact ⟨by first | rfl | (simp [errW_none, errW_some] <;> rfl) | (simp [*, errW_none, errW_some] <;> rfl), by repeat (first | (with_reducible first | exact HB.out | apply below_alloc | apply pw_below_drewN | apply below_drew1) | exact HB.out)⟩
          · rw [if_neg c6] at H
            have c6b0 : decide (48 ≤ (bt a0 x1_1)) = false := decide_eq_false c6
            clear c6
            simp only [Option.some.injEq, Prod.mk.injEq] at H
            obtain ⟨rfl, rfl⟩ := H
            have p5 : 0 ≤ (x1_1 : Int) := of_decide_eq_true (by first | (with_reducible assumption) | assumption)
            have q5 : x1_1 < (a0.size : Int) := of_decide_eq_true (by first | (with_reducible assumption) | assumption)
            have hx5 := bt_at a0 x1_1
            replace p5 := eq_true p5
            replace q5 := eq_true q5
            go_wp2
            go_ret2
            exact ⟨by first | rfl | (simp [errW_none, errW_some] <;> rfl) | (simp [*, errW_none, errW_some] <;> rfl), by repeat (first | (with_reducible first | exact HB.out | apply below_alloc | apply pw_below_drewN | apply below_drew1) | exact HB.out)⟩
        · rw [if_neg c4] at H
          exact absurd H (by simp)
      · rw [if_neg c3] at H
        have c3b0 : decide (x1_1 < (a0.size : Int)) = false := decide_eq_false c3
        clear c3
        simp only [Option.some.injEq, Prod.mk.injEq] at H
        obtain ⟨rfl, rfl⟩ := H
        go_wp2
        go_ret2
        exact ⟨by first | rfl | (simp [errW_none, errW_some] <;> rfl) | (simp [*, errW_none, errW_some] <;> rfl), by repeat (first | (with_reducible first | exact HB.out | apply below_alloc | apply pw_below_drewN | apply below_drew1) | exact HB.out)⟩
end Go.Proofs.YtlglmooknlmomaaDoorPR
end
section
set_option linter.all false
namespace Go.Proofs.YtlglmooknlmomaaDoor
open Go.RowKit Go.Proofs.YtlglmooknlmomaaDoorPR Go.Proofs.YtlglmooknlmomaaDoor.Inj Go.Proofs.YtlglmooknlmomaaDoorW.PrintWords
theorem ref_digit : ∀ n : Fin 10, ((⟨#[48, 49, 50, 51, 52, 53, 54, 55, 56, 57]⟩ : ByteArray).extract n.val (n.val + 1)) = bs [UInt8.ofNat (48 + n.val)] := by
  decide
theorem digits_eq (k : Nat) : ∀ n : Nat, n < 10 ^ k → k ≤ 18 → spoondriftref01_digits.f (k + 1) n = some (bs (Lib.decDigits n)) := by
  induction k with
  | zero =>
    intro n h _
    obtain rfl : n = 0 := by omega
    simp only [spoondriftref01_digits.f]
    rw [wr (x := ((0 : Nat) : Int) + 1) (by omega), if_pos (by omega), if_pos (by omega), if_pos (by omega), if_pos (by omega), Lib.decDigits_one (by omega)]
    exact congrArg some (ref_digit ⟨0, by omega⟩)
  | succ k ih =>
    intro n h hk
    rw [spoondriftref01_digits.f]
    have hp : 10 ^ (k + 1) ≤ 10 ^ 18 := Nat.pow_le_pow_right (by decide) hk
    have h18 : (10 : Nat) ^ 18 = 1000000000000000000 := by decide
    by_cases h10 : n < 10
    · rw [wr (x := (n : Int) + 1) (by omega), if_pos (by omega), if_pos (by omega), if_pos (by omega), if_pos (by omega), Lib.decDigits_one h10]
      have := ref_digit ⟨n, h10⟩
      rw [show ((n : Int)).toNat = n by omega, show ((n : Int) + 1).toNat = n + 1 by omega]
      exact congrArg some this
    · have e1 : (n : Int).tdiv 10 = ((n / 10 : Nat) : Int) := by rw [Int.tdiv_eq_ediv_of_nonneg (by omega)]; omega
      have e2 : (n : Int).tmod 10 = ((n % 10 : Nat) : Int) := by rw [Int.tmod_eq_emod_of_nonneg (by omega)]; omega
      have h1 : n / 10 < 10 ^ k := by rw [Nat.pow_succ] at h; omega
      have h2 : n % 10 < 10 ^ k ∨ k = 0 := by
        rcases Nat.eq_zero_or_pos k with h0 | h0
        · exact .inr h0
        · left
          have : 10 ^ 1 ≤ 10 ^ k := Nat.pow_le_pow_right (by decide) h0
          omega
      have hk0 : k ≠ 0 := fun h0 => by subst h0; omega
      have h2 : n % 10 < 10 ^ k := by omega
      have l1 := nDigits_le (k - 1) (n / 10) (by rw [show k - 1 + 1 = k by omega]; exact h1)
      have l2 := nDigits_le (k - 1) (n % 10) (by rw [show k - 1 + 1 = k by omega]; exact h2)
      rw [if_neg (by omega), e1, e2, wr (by omega), ih _ h1 (by omega), ih _ h2 (by omega)]
      simp only [Option.bind_some]
      rw [if_pos (by rw [bs_size, bs_size, Lib.decDigits_length, Lib.decDigits_length]; omega), bs_append]
      conv => rhs; rw [Lib.decDigits, dif_neg h10]
      rw [Lib.decDigits_one (i := n % 10) (by omega)]
theorem digits_any (k n : Nat) (hk : 12 ≤ k) (hn : n ≤ 2147483648) : spoondriftref01_digits.f k n = some (bs (Lib.decDigits n)) := by
  have h := digits_eq 11 n (by have : (10 : Nat) ^ 11 = 100000000000 := by decide
                               omega) (by omega)
  obtain ⟨j, rfl⟩ : ∃ j, k = 12 + j := ⟨k - 12, by omega⟩
  clear hk
  induction j with
  | zero => exact h
  | succ j ih => exact spoondriftref01_digits.mono n (12 + j) _ ih
theorem unit_at (i : Nat) (hi : i < 4) : rdOf ByteArray.empty [(⟨#[]⟩ : ByteArray), (⟨#[119]⟩ : ByteArray), (⟨#[119, 50]⟩ : ByteArray), (⟨#[119, 51]⟩ : ByteArray)] (i : Int) = bs (unitB i) := by
  match i, hi with
  | 0, _ => rfl
  | 1, _ => rfl
  | 2, _ => rfl
  | 3, _ => rfl
theorem bs_nil (l : List UInt8) : ((bs l).toList = ([] : List UInt8)) ↔ l = [] := by
  have h : (bs l).toList = l := by simp [bs, ByteArray.toList_eq]
  rw [h]
theorem b45 : (⟨#[45]⟩ : ByteArray) = bs [45] := rfl
theorem b43 : (⟨#[43]⟩ : ByteArray) = bs [43] := rfl
theorem text_step (k : Nat) (hk : 12 ≤ k) (i : Nat) (hi : i < 4) (L : List Int) (hL : L.length = 4) (c : Int) (hc : rd L (i : Int) = c) (hb : -1073741824 ≤ c ∧ c ≤ 1073741824) (out : List UInt8) (ho : out.length ≤ 200) (A B C D K : Int) :
    spoondriftref01_text.l0 (k + 1) (bs out) L i A B C D K = spoondriftref01_text.l0 k (bs (termB i c out)) L ((i : Int) + 1) A B C D K := by
  have hu := unitB_len i
  rw [spoondriftref01_text.l0]
  rw [if_pos (by omega), if_pos (by omega), if_pos (by rw [hL]; omega), hc, wr (x := (i : Int) + 1) (by omega), wr (x := -c) (by omega), b45, b43]
  rw [termB_eq]
  by_cases h0 : c = 0
  · rw [if_pos h0, if_pos h0]
  rw [if_neg h0, if_neg h0]
  have hdl : (Lib.decDigits c.natAbs).length ≤ 10 := decDigits_len10 (by omega)
  by_cases h1 : c < 0
  · rw [if_pos h1, if_pos h1, if_pos (by rw [bs_size]; omega)]
    have hd : spoondriftref01_digits.f k (-c) = some (bs (Lib.decDigits c.natAbs)) := by
      have := digits_any k c.natAbs hk (by omega)
      rwa [show ((c.natAbs : Nat) : Int) = -c by omega] at this
    simp only [hd, Option.bind_some, unit_at i hi]
    by_cases h2 : -c = 1
    · rw [if_pos h2]
      have hn : c.natAbs = 1 := by omega
      by_cases h3 : (i : Int) = 0
      · have hi0 : i = 0 := by omega
        rw [if_pos h3, if_pos (by simp only [bs_append, bs_size, List.length_append, List.length_cons, List.length_nil] at *; omega), if_pos (by simp; omega), if_pos (by simp only [bs_append, bs_size, List.length_append, List.length_cons, List.length_nil] at *; omega)]
        unfold bodyT
        rw [if_neg (by omega)]
        simp only [bs_append, List.append_assoc]
      · rw [if_neg h3, if_pos (by simp; omega), if_pos (by simp only [bs_append, bs_size, List.length_append, List.length_cons, List.length_nil] at *; omega)]
        unfold bodyT
        rw [if_pos ⟨by omega, hn⟩]
        simp only [bs_append, List.append_assoc, List.nil_append]
    · rw [if_neg h2, if_pos (by simp only [bs_append, bs_size, List.length_append, List.length_cons, List.length_nil] at *; omega), if_pos (by simp; omega), if_pos (by simp only [bs_append, bs_size, List.length_append, List.length_cons, List.length_nil] at *; omega)]
      unfold bodyT
      rw [if_neg (by omega)]
      simp only [bs_append, List.append_assoc]
  · rw [if_neg h1, if_neg h1]
    have hd : spoondriftref01_digits.f k c = some (bs (Lib.decDigits c.natAbs)) := by
      have := digits_any k c.natAbs hk (by omega)
      rwa [show ((c.natAbs : Nat) : Int) = c by omega] at this
    simp only [hd, Option.bind_some, unit_at i hi, bs_nil]
    by_cases h4 : out = []
    · rw [if_pos h4, if_pos h4]
      by_cases h2 : c = 1
      · rw [if_pos h2]
        have hn : c.natAbs = 1 := by omega
        by_cases h3 : (i : Int) = 0
        · rw [if_pos h3, if_pos (by simp only [bs_append, bs_size, List.length_append, List.length_cons, List.length_nil] at *; omega), if_pos (by simp; omega), if_pos (by simp only [bs_append, bs_size, List.length_append, List.length_cons, List.length_nil] at *; omega)]
          unfold bodyT
          rw [if_neg (by omega)]
          simp only [bs_append, List.append_assoc, List.nil_append]
        · rw [if_neg h3, if_pos (by simp; omega), if_pos (by simp only [bs_append, bs_size, List.length_append, List.length_cons, List.length_nil] at *; omega)]
          unfold bodyT
          rw [if_pos ⟨by omega, hn⟩]
          simp only [bs_append, List.nil_append]
      · rw [if_neg h2, if_pos (by simp only [bs_append, bs_size, List.length_append, List.length_cons, List.length_nil] at *; omega), if_pos (by simp; omega), if_pos (by simp only [bs_append, bs_size, List.length_append, List.length_cons, List.length_nil] at *; omega)]
        unfold bodyT
        rw [if_neg (by omega)]
        simp only [bs_append, List.append_assoc, List.nil_append]
    · rw [if_neg h4, if_neg h4, if_pos (by rw [bs_size]; omega)]
      by_cases h2 : c = 1
      · rw [if_pos h2]
        have hn : c.natAbs = 1 := by omega
        by_cases h3 : (i : Int) = 0
        · rw [if_pos h3, if_pos (by simp only [bs_append, bs_size, List.length_append, List.length_cons, List.length_nil] at *; omega), if_pos (by simp; omega), if_pos (by simp only [bs_append, bs_size, List.length_append, List.length_cons, List.length_nil] at *; omega)]
          unfold bodyT
          rw [if_neg (by omega)]
          simp only [bs_append, List.append_assoc]
        · rw [if_neg h3, if_pos (by simp; omega), if_pos (by simp only [bs_append, bs_size, List.length_append, List.length_cons, List.length_nil] at *; omega)]
          unfold bodyT
          rw [if_pos ⟨by omega, hn⟩]
          simp only [bs_append, List.append_assoc, List.nil_append]
      · rw [if_neg h2, if_pos (by simp only [bs_append, bs_size, List.length_append, List.length_cons, List.length_nil] at *; omega), if_pos (by simp; omega), if_pos (by simp only [bs_append, bs_size, List.length_append, List.length_cons, List.length_nil] at *; omega)]
        unfold bodyT
        rw [if_neg (by omega)]
        simp only [bs_append, List.append_assoc]
theorem termB_len4 {c : Int} (h : -1073741824 ≤ c ∧ c ≤ 1073741824) (i : Nat) (l : List UInt8) : (termB i c l).length ≤ l.length + 23 := termB_len i h l
theorem text_eq (n : Nat) (hn : 100 ≤ n) {y : Nm} (hp : y.p.le 1073741824) (hk : 0 ≤ y.k ∧ y.k ≤ 60) (hz : y.p = Pt.zero → y.k = 0) : spoondriftref01_text.f n y.p.a y.p.b y.p.c y.p.d y.k = some (bs (textB y)) := by
  obtain ⟨m, rfl⟩ : ∃ m, n = m + 95 := ⟨n - 95, by omega⟩
  have hz2 := @terms_zero y.p hp
  obtain ⟨⟨p, hp0⟩⟩ : Nonempty {p // p = y.p} := ⟨⟨y.p, rfl⟩⟩
  unfold spoondriftref01_text.f
  rw [zero_eq]
  simp only [Option.bind_some, decide_eq_true_eq]
  by_cases h : y.p = Pt.zero
  · rw [if_pos h]
    have e : textB y = [48] := by unfold textB; rw [h]; rfl
    rw [e]
    rfl
  · rw [if_neg h]
    obtain ⟨h1, h2, h3, h4⟩ := id hp
    have l1 := termB_len4 h1 0 []
    have l2 := termB_len4 h2 1 (termB 0 y.p.a [])
    have l3 := termB_len4 h3 2 (termB 1 y.p.b (termB 0 y.p.a []))
    have l4 := termB_len4 h4 3 (termB 2 y.p.c (termB 1 y.p.b (termB 0 y.p.a [])))
    simp only [List.length_nil] at l1
    have s1 := text_step (m + 94) (by omega) 0 (by omega) [y.p.a, y.p.b, y.p.c, y.p.d] rfl y.p.a rfl h1 [] (by simp) y.p.a y.p.b y.p.c y.p.d y.k
    have s2 := text_step (m + 93) (by omega) 1 (by omega) [y.p.a, y.p.b, y.p.c, y.p.d] rfl y.p.b rfl h2 (termB 0 y.p.a []) (by omega) y.p.a y.p.b y.p.c y.p.d y.k
    have s3 := text_step (m + 92) (by omega) 2 (by omega) [y.p.a, y.p.b, y.p.c, y.p.d] rfl y.p.c rfl h3 (termB 1 y.p.b (termB 0 y.p.a [])) (by omega) y.p.a y.p.b y.p.c y.p.d y.k
    have s4 := text_step (m + 91) (by omega) 3 (by omega) [y.p.a, y.p.b, y.p.c, y.p.d] rfl y.p.d rfl h4 (termB 2 y.p.c (termB 1 y.p.b (termB 0 y.p.a []))) (by omega) y.p.a y.p.b y.p.c y.p.d y.k
    have s0 : (⟨#[]⟩ : ByteArray) = bs [] := rfl
    rw [s0]
    refine s1.trans (s2.trans (s3.trans (s4.trans ?_)))
    have hT : termsN y.p 4 = termB 3 y.p.d (termB 2 y.p.c (termB 1 y.p.b (termB 0 y.p.a []))) := rfl
    rw [← hT]
    have hne : termsN y.p 4 ≠ [] := fun e => h (hz2 e)
    have hl : (termsN y.p 4).length ≤ 92 := terms_len hp
    rw [spoondriftref01_text.l0, if_neg (by decide)]
    have e4 : (⟨#[40]⟩ : ByteArray) = bs [40] := rfl
    have e5 : (⟨#[41, 47, 114]⟩ : ByteArray) = bs [41, 47, 114] := rfl
    unfold textB
    rw [if_neg hne]
    by_cases hk0 : y.k > 0
    · have hd : spoondriftref01_digits.f (m + 90) y.k = some (bs (Lib.itoa y.k)) := by
        have := digits_any (m + 90) y.k.toNat (by omega) (by omega)
        rw [show ((y.k.toNat : Nat) : Int) = y.k by omega] at this
        rw [this]
        unfold Lib.itoa
        rw [if_neg (by omega)]
      have hil : (Lib.itoa y.k).length ≤ 20 := itoa_len (by omega)
      rw [if_pos hk0, if_neg (c := y.k = 0) (by omega), e4, e5]
      simp only [hd, Option.bind_some]
      repeat rw [if_pos (by simp only [bs_append, bs_size, List.length_append, List.length_cons, List.length_nil] at *; omega)]
      simp only [bs_append]
    · rw [if_neg hk0, if_pos (by omega)]
theorem lf_zero {x : Nm} (h : (lf x).p = Pt.zero) : (lf x).k = 0 := by
  have := red_zk (k := x.k.toNat) (p := x.p) h
  show ((Pt.red x.k.toNat x.p).2 : Int) = 0
  rw [this]; rfl
theorem Print_eq (n : Nat) (hn : 100 ≤ n) (x : Nm) : spoondriftref01_Print.f n x.p.a x.p.b x.p.c x.p.d x.k = some (bs (sPrint x).1, (sPrint x).2) := by
  unfold spoondriftref01_Print.f
  rw [Check_eq n (by omega)]
  simp only [Option.bind_some]
  show (if x.chk = 0 then _ else _) = _
  by_cases h : x.chk = 0
  · obtain ⟨g1, g2, g3⟩ := nmOf_red_ok h
    rw [if_pos h, Form_nm n (by omega) h]
    simp only [Option.bind_some]
    have := text_eq n hn (y := lf x) g1 ⟨g2, g3⟩ lf_zero
    show ((spoondriftref01_text.f n (lf x).p.a (lf x).p.b (lf x).p.c (lf x).p.d (lf x).k).bind _) = _
    rw [this]
    unfold sPrint
    rw [if_pos h]
    rfl
  · rw [if_neg h]
    unfold sPrint
    rw [if_neg h]
    rfl
end Go.Proofs.YtlglmooknlmomaaDoor
end
