import Derived.Test.YtonnegkpjmhomaaGreatDoorDSmall19
import Derived.Test.YtonnegkpjmhomaaGreatDoorDSmall22
import Derived.Test.YtonnegkpjmhomaaGreatDoorDSmall23
set_option linter.all false
section
set_option linter.all false
namespace Go.Proofs.YtonnegkpjmhomaaGreatDoor
open Go.RowKit
theorem wordK_yes2 {k : Int} (h : 1 ≤ k ∧ k ≤ 14) : ∃ b r, wordK k = b :: r := by
  obtain rfl | rfl | rfl | rfl | rfl | rfl | rfl | rfl | rfl | rfl | rfl | rfl | rfl | rfl : k = 1 ∨ k = 2 ∨ k = 3 ∨ k = 4 ∨ k = 5 ∨ k = 6 ∨ k = 7 ∨ k = 8 ∨ k = 9 ∨ k = 10 ∨ k = 11 ∨ k = 12 ∨ k = 13 ∨ k = 14 := by omega
  all_goals exact ⟨_, _, rfl⟩
set_option maxRecDepth 100000 in
set_option maxHeartbeats 4000000 in
theorem refWord_none (k : Int) (h : ¬ (1 ≤ k ∧ k ≤ 14)) (w : World) : Calls Tryz.prog 27 #[.int .i64 k] w fun e w' => e = .returned (.string (bs [])) ∧ w' = w := by
  have e1 : (k == 1) = false := by rw [beq_eq_false_iff_ne]; omega
  have e2 : (k == 2) = false := by rw [beq_eq_false_iff_ne]; omega
  have e3 : (k == 3) = false := by rw [beq_eq_false_iff_ne]; omega
  have e4 : (k == 4) = false := by rw [beq_eq_false_iff_ne]; omega
  have e5 : (k == 5) = false := by rw [beq_eq_false_iff_ne]; omega
  have e6 : (k == 6) = false := by rw [beq_eq_false_iff_ne]; omega
  have e7 : (k == 7) = false := by rw [beq_eq_false_iff_ne]; omega
  have e8 : (k == 8) = false := by rw [beq_eq_false_iff_ne]; omega
  have e9 : (k == 9) = false := by rw [beq_eq_false_iff_ne]; omega
  have e10 : (k == 10) = false := by rw [beq_eq_false_iff_ne]; omega
  have e11 : (k == 11) = false := by rw [beq_eq_false_iff_ne]; omega
  have e12 : (k == 12) = false := by rw [beq_eq_false_iff_ne]; omega
  have e13 : (k == 13) = false := by rw [beq_eq_false_iff_ne]; omega
  have e14 : (k == 14) = false := by rw [beq_eq_false_iff_ne]; omega
  clear h
  go_enter Tryz.func27, Tryz.ntmps27
  go_wp2_with fail
  go_ret
  exact ⟨rfl, rfl⟩
set_option maxRecDepth 100000 in
set_option maxHeartbeats 8000000 in
theorem refShow_calls (g : Gt) (wv : Value) (B : Nat) (w : World) (hB : B ≤ w.heap.size) (hv : IntsAt w B wv g.wires) (hl : g.wires.length ≤ 1000000) :
    Calls Tryz.prog 72 #[.agg #[.int .i64 g.kind, wv, .int .i64 g.bit, .int .i64 g.ifn]] w fun e w' => e = .returned (.tuple #[.string (bs (sShow g).1), .int .i64 (sShow g).2]) ∧ Below w.heap.size w w' := by
  have HG := Lib.hid (fun W' (hs : Shows g) (hk : 1 ≤ g.kind ∧ g.kind ≤ 14) (hB : B ≤ W'.heap.size) (hv : IntsAt W' B wv g.wires) => refLine_calls g hs hk wv B W' hB hv)
  have HSh : Hid (g.wires.any outR = false → 0 ≤ g.bit ∧ g.bit ≤ 999 → 0 ≤ g.ifn ∧ g.ifn ≤ 1000 → g.wires.length ≤ 3 → Shows g) := fun h1 h2 h3 h4 =>
    ⟨fun x hx => by
      have := List.any_eq_false.1 h1 x hx
      simp only [outR, Bool.or_eq_true, decide_eq_true_eq] at this
      omega, by omega, h2, h3⟩
  have Har := Lib.hid (arity_le g.kind)
  obtain ⟨k, zs, b, f⟩ := g
  dsimp only at hv HG HSh Har hl ⊢
  obtain ⟨A, c, rfl, hc1, hc2, _⟩ := hv.form
  have hx := Blk.new w 61 #[.int .i64 k, .slice A zs.length c, .int .i64 b, .int .i64 f]
  have hb := below1 w (.cells #[.int .i64 k, .slice A zs.length c, .int .i64 b, .int .i64 f] 61)
  have hv := hv.below (hb.mono hB)
  have HA := Lib.hid (fun W' => refArity_any k W')
  have HO1 := Lib.hid (fun W' => refOff5_calls b 0 999 W')
  have HO2 := Lib.hid (fun W' => refOff5_calls f 0 1000 W')
  have HOx : Hid (∀ x W', Calls Tryz.prog 99 #[.int .i64 x, .int .i64 0, .int .i64 999] W' fun e w' => e = .returned (.bool (outR x)) ∧ W' = w') := fun x W' => refOff5_calls x 0 999 W'
  have Hc : Hid (sShow ⟨k, zs, b, f⟩ = if arity k = 0 then ([], 3) else if (zs.length : Int) ≠ arity k then ([], 2) else if zs.any outR || outR b || decide (f < 0) || decide (1000 < f) then ([], 3) else if (k ≠ 13 ∧ b ≠ 0) ∨ ((k = 13 ∨ k = 14) ∧ f ≠ 0) then ([], 7) else (shownP ⟨k, zs, b, f⟩, 0)) := rfl
  generalize sShow ⟨k, zs, b, f⟩ = cg at *
  generalize shownP ⟨k, zs, b, f⟩ = sg at *
  by_cases hkr : 1 ≤ k ∧ k ≤ 14
  · have Hka : Hid (arity k ≠ 0) := by
      show arity k ≠ 0
      obtain rfl | rfl | rfl | rfl | rfl | rfl | rfl | rfl | rfl | rfl | rfl | rfl | rfl | rfl : k = 1 ∨ k = 2 ∨ k = 3 ∨ k = 4 ∨ k = 5 ∨ k = 6 ∨ k = 7 ∨ k = 8 ∨ k = 9 ∨ k = 10 ∨ k = 11 ∨ k = 12 ∨ k = 13 ∨ k = 14 := by omega
      all_goals decide
    have HW := Lib.hid (fun W' => refWord_calls k hkr W')
    obtain ⟨wb0, wr0, hwk⟩ := wordK_yes2 hkr
    rw [hwk] at HW
    have ew : (bs (wb0 :: wr0)).toList = wb0 :: wr0 := toList_ne _
    clear hwk
    obtain ⟨ar, har⟩ : ∃ a, arity k = a := ⟨_, rfl⟩
    rw [har] at HA Hc Hka Har
    clear har
    obtain ⟨an, han⟩ : ∃ x, Hid (zs.any outR = x) := hidEx _
    rw [han.out] at Hc HSh
    have Hob : Hid (outR b = (decide (b < 0) || decide (999 < b))) := rfl
    rw [← Hob.out] at HO1
    obtain ⟨ob, hob⟩ : ∃ x, outR b = x := ⟨_, rfl⟩
    rw [hob] at HO1 Hc Hob
    clear hob
    go_enter Tryz.func72, Tryz.ntmps72
    go_upto_region 1 with fail
    generalize w.alloc (.cells #[.int .i64 k, .slice A zs.length c, .int .i64 b, .int .i64 f] 61) = wa at *
    obtain ⟨x0, x1, x2, x3, xf⟩ := hx.cells4
    go_upto_region 3 with (go_at_call 27; (with_reducible refine (HW.out _).mono ?_); rintro e w1 ⟨rfl, hw1⟩; (have hw1 := hw1.symm); subst hw1)
    go_quiet ((go_at_call 116; exact Calls.quiet_of_same ((HA.out _).mono fun _ _ h => ⟨h.1, h.2.symm⟩)))
    have hx := hx.drewN nq
    have hb := belowN hb nq
    have hv : IntsAt (wa.drewN nq) B (.slice A zs.length c) zs := hv.keep fun _ _ => rfl
    clear x0 x1 x2 x3 xf
    generalize wa.drewN nq = wb at *
    obtain ⟨x0, x1, x2, x3, xf⟩ := hx.cells4
    have Hka2 := Hka.out
    rw [if_neg Hka2] at Hc
    clear Hka2 HW ew
    by_cases h1 : (zs.length : Int) = ar
    · rw [if_neg (by omega)] at Hc
      have hl3 : zs.length ≤ 3 := by have := Har.out; omega
      have hBw : B ≤ wb.heap.size := Nat.le_trans hB hb.size
      subst h1
      simp only [bne_self_eq_false]
      clear HA Har Hka
      go_wp2_with fail
      go_loopg [4] zs.length (fun gk s4 wr => ∃ j : Nat, j + gk = zs.length ∧ s4 = .int .i64 j ∧ wb = wr ∧ Hid (an = (zs.drop j).any outR))
      case atStart => exact ⟨0, by omega, rfl, rfl, han.out.symm⟩
      case round =>
        clear han
        obtain ⟨j, hj, rfl, rfl, Hj⟩ := hrel
        cases gk with
        | succ gk =>
          have hlt : j < zs.length := by omega
          obtain ⟨A', c', e1, _, _, hc3⟩ := hv.form
          injection e1 with e1 _ e3
          subst e1 e3
          obtain ⟨g', o, rfl, _, hcell⟩ := hc3 (by intro h0; subst h0; simp at hlt)
          obtain ⟨y, Hy, hxk⟩ : ∃ y, Hid (zs.drop j = y :: zs.drop (j + 1)) ∧ World.cell? wb ⟨g', o + j, none⟩ = some (.int .i64 y) :=
            ⟨zs[j], by show zs.drop j = _; rw [List.drop_eq_getElem_cons hlt], by rw [hcell j hlt, List.getD_eq_getElem?_getD, List.getElem?_eq_getElem hlt]; rfl⟩
          have HOy := Lib.hid (fun W' => HOx.out y W')
          have hlk : (j : Int) < (zs.length : Int) := by omega
          have hl0 : (0 : Int) ≤ (j : Int) := by omega
          clear hcell hc3
          cases hq : outR y
          · have Hr : Hid (an = (zs.drop (j + 1)).any outR) := by show _ = _; rw [Hj.out, Hy.out, List.any_cons, hq]; rfl
            rw [hq] at HOy
            clear hq
            go_wp2_with fail
            with_reducible refine (HOy.out _).mono ?_
            rintro e w2 ⟨rfl, rfl⟩
            go_wp2_with fail
            go_roundg gk
            case measure => omega
            case rel => exact ⟨j + 1, by omega, by go_num, rfl, Hr⟩
          · have Hr : Hid (an = true) := by show _ = _; rw [Hj.out, Hy.out, List.any_cons, hq]; rfl
            rw [hq] at HOy
            have Hr2 : Hid (cg = ([], 3)) := by show _ = _; rw [Hc.out, if_pos (by rw [Hr.out]; rfl)]
            clear hq
            go_wp2_with fail
            with_reducible refine (HOy.out _).mono ?_
            rintro e w2 ⟨rfl, rfl⟩
            go_wp2_with fail
            go_ret2
            exact ⟨by rw [Hr2.out]; rfl, hb⟩
        | zero =>
          obtain rfl : j = zs.length := by omega
          have ha : an = false := by rw [Hj.out, List.drop_length]; rfl
          subst ha
          clear Hj HOx
          cases ob
          · by_cases hf0 : f < 0 ∨ 1000 < f
            · have ef0 : (decide (f < 0) || decide (1000 < f)) = true := by simpa using hf0
              rw [ef0] at HO2
              have Hr : Hid (cg = ([], 3)) := by show _ = _; rw [Hc.out, if_pos (by rw [Bool.or_assoc, ef0]; rfl)]
              clear hf0
              go_wp2_with (first | (go_at_call 99; (first | (with_reducible refine (HO1.out _).mono ?_) | (with_reducible refine (HO2.out _).mono ?_)); rintro e w1 ⟨rfl, rfl⟩) | (go_at_call 105; (with_reducible refine (HG.out _ HSf.out hkr hBw hv).mono ?_); rintro e w2 ⟨rfl, hb2⟩))
              go_ret2
              exact ⟨by rw [Hr.out]; rfl, hb⟩
            · have ef0 : (decide (f < 0) || decide (1000 < f)) = false := by simp; omega
              rw [ef0] at HO2
              rw [if_neg (by rw [Bool.or_assoc, ef0]; decide)] at Hc
              have hbr : 0 ≤ b ∧ b ≤ 999 := by
                have := Hob.out
                simp only [Bool.false_eq, Bool.or_eq_false_iff, decide_eq_false_iff_not] at this
                omega
              have HSf := Lib.hid (HSh.out rfl hbr ⟨by omega, by omega⟩ hl3)
              clear ef0
              by_cases hk13 : k = 13
              · subst hk13
                by_cases hf : f = 0
                · have ef : (f != 0) = false := by simp [hf]
                  have Hr : Hid (cg = (sg, 0)) := by show _ = _; rw [Hc.out, if_neg (by omega)]
                  clear hf
                  go_wp2_with (first | (go_at_call 99; (first | (with_reducible refine (HO1.out _).mono ?_) | (with_reducible refine (HO2.out _).mono ?_)); rintro e w1 ⟨rfl, rfl⟩) | (go_at_call 105; (with_reducible refine (HG.out _ HSf.out hkr hBw hv).mono ?_); rintro e w2 ⟨rfl, hb2⟩))
                  go_ret2
                  exact ⟨by rw [Hr.out] <;> rfl, bt hb2 hb hb.size⟩
                · have ef : (f != 0) = true := by simp [hf]
                  have Hr : Hid (cg = ([], 7)) := by show _ = _; rw [Hc.out, if_pos (by omega)]
                  clear hf
                  go_wp2_with (first | (go_at_call 99; (first | (with_reducible refine (HO1.out _).mono ?_) | (with_reducible refine (HO2.out _).mono ?_)); rintro e w1 ⟨rfl, rfl⟩) | (go_at_call 105; (with_reducible refine (HG.out _ HSf.out hkr hBw hv).mono ?_); rintro e w2 ⟨rfl, hb2⟩))
                  go_ret2
                  exact ⟨by rw [Hr.out]; rfl, hb⟩
              · have e13 : (k != 13) = true := by simpa using hk13
                by_cases hbz : b = 0
                · have eb : (b != 0) = false := by simp [hbz]
                  by_cases hk9 : 13 ≤ k
                  · have e9 : decide ((13 : Int) ≤ k) = true := decide_eq_true hk9
                    by_cases hf : f = 0
                    · have ef : (f != 0) = false := by simp [hf]
                      have Hr : Hid (cg = (sg, 0)) := by show _ = _; rw [Hc.out, if_neg (by omega)]
                      clear hf hk13 hbz
                      go_wp2_with (first | (go_at_call 99; (first | (with_reducible refine (HO1.out _).mono ?_) | (with_reducible refine (HO2.out _).mono ?_)); rintro e w1 ⟨rfl, rfl⟩) | (go_at_call 105; (with_reducible refine (HG.out _ HSf.out hkr hBw hv).mono ?_); rintro e w2 ⟨rfl, hb2⟩))
                      go_ret2
                      exact ⟨by rw [Hr.out] <;> rfl, bt hb2 hb hb.size⟩
                    · have ef : (f != 0) = true := by simp [hf]
                      have Hr : Hid (cg = ([], 7)) := by show _ = _; rw [Hc.out, if_pos (by omega)]
                      clear hf hk13 hbz
                      go_wp2_with (first | (go_at_call 99; (first | (with_reducible refine (HO1.out _).mono ?_) | (with_reducible refine (HO2.out _).mono ?_)); rintro e w1 ⟨rfl, rfl⟩) | (go_at_call 105; (with_reducible refine (HG.out _ HSf.out hkr hBw hv).mono ?_); rintro e w2 ⟨rfl, hb2⟩))
                      go_ret2
                      exact ⟨by rw [Hr.out]; rfl, hb⟩
                  · have e9 : decide ((13 : Int) ≤ k) = false := decide_eq_false hk9
                    have Hr : Hid (cg = (sg, 0)) := by show _ = _; rw [Hc.out, if_neg (by omega)]
                    clear hk13 hbz
                    go_wp2_with (first | (go_at_call 99; (first | (with_reducible refine (HO1.out _).mono ?_) | (with_reducible refine (HO2.out _).mono ?_)); rintro e w1 ⟨rfl, rfl⟩) | (go_at_call 105; (with_reducible refine (HG.out _ HSf.out hkr hBw hv).mono ?_); rintro e w2 ⟨rfl, hb2⟩))
                    go_ret2
                    exact ⟨by rw [Hr.out] <;> rfl, bt hb2 hb hb.size⟩
                · have eb : (b != 0) = true := by simp [hbz]
                  have Hr : Hid (cg = ([], 7)) := by show _ = _; rw [Hc.out, if_pos (by omega)]
                  clear hk13 hbz
                  go_wp2_with (first | (go_at_call 99; (first | (with_reducible refine (HO1.out _).mono ?_) | (with_reducible refine (HO2.out _).mono ?_)); rintro e w1 ⟨rfl, rfl⟩) | (go_at_call 105; (with_reducible refine (HG.out _ HSf.out hkr hBw hv).mono ?_); rintro e w2 ⟨rfl, hb2⟩))
                  go_ret2
                  exact ⟨by rw [Hr.out]; rfl, hb⟩
          · have Hr : Hid (cg = ([], 3)) := by show _ = _; rw [Hc.out, if_pos (by rfl)]
            go_wp2_with (go_at_call 99; (first | (with_reducible refine (HO1.out _).mono ?_) | (with_reducible refine (HO2.out _).mono ?_)); rintro e w1 ⟨rfl, rfl⟩)
            go_ret2
            exact ⟨by rw [Hr.out]; rfl, hb⟩
    · rw [if_pos h1] at Hc
      have h1b : ((zs.length : Int) != ar) = true := by simpa using h1
      clear h1
      go_wp2_with fail
      go_ret2
      exact ⟨by rw [Hc.out]; rfl, hb⟩
  · have hk0 : arity k = 0 := by unfold arity; rw [if_neg (by omega), if_neg (by omega), if_neg (by omega)]
    rw [if_pos hk0] at Hc
    have HW := Lib.hid (fun W' => refWord_none k hkr W')
    have ew : (bs ([] : List UInt8)).toList = [] := toList_ne []
    clear hk0 hkr
    go_enter Tryz.func72, Tryz.ntmps72
    go_upto_region 1 with fail
    generalize w.alloc (.cells #[.int .i64 k, .slice A zs.length c, .int .i64 b, .int .i64 f] 61) = wa at *
    obtain ⟨x0, x1, x2, x3, xf⟩ := hx.cells4
    go_wp2_with (go_at_call 27; (with_reducible refine (HW.out _).mono ?_); rintro e w1 ⟨rfl, hw1⟩; (have hw1 := hw1.symm); subst hw1)
    go_ret2
    exact ⟨by rw [Hc.out]; rfl, hb⟩
end Go.Proofs.YtonnegkpjmhomaaGreatDoor
end
