import Derived.Test.YtonnegkpjmhomaaGreatDoorDTold10
set_option linter.all false
section
set_option linter.all false
namespace Go.Proofs.YtonnegkpjmhomaaGreatDoor
open Go.RowKit
set_option maxHeartbeats 1000000 in
theorem out_calls (n : Int) (w : World) : Calls Tryz.prog 75 #[.int .i64 n] w fun e w' => e = .returned (.bool (outR n)) ∧ w = w' := by
  by_cases h : n < 0
  · have Hv : Hid (outR n = true) := by show _ = _; unfold outR; rw [decide_eq_true h]; rfl
    rw [Hv.out]
    go_enter Tryz.func75, Tryz.ntmps75
    go_wp2_with fail
    go_ret
    exact ⟨rfl, rfl⟩
  · have Hv : Hid (outR n = decide (999 < n)) := by show _ = _; unfold outR; rw [decide_eq_false h]; rfl
    rw [Hv.out]
    go_enter Tryz.func75, Tryz.ntmps75
    go_wp2_with fail
    go_ret
    exact ⟨rfl, rfl⟩
def fiO : Nat → List Int → Int
  | _, [] => -1
  | i, x :: l => if outR x then i else fiO (i + 1) l
theorem fiO_any (l : List Int) (i : Nat) : l.any outR = decide (0 ≤ fiO i l) ∧ -1 ≤ fiO i l ∧ fiO i l < i + l.length := by
  induction l generalizing i with
  | nil => simp [fiO]; omega
  | cons x l ih =>
    rw [fiO, List.any_cons, List.length_cons]
    cases h : outR x
    · have := ih (i + 1)
      refine ⟨?_, ?_, ?_⟩
      · rw [this.1]; simp
      · simp; exact this.2.1
      · simp; omega
    · simp; omega
set_option maxHeartbeats 1000000 in
theorem indexOut_calls (zs : List Int) (v : Value) (B : Nat) (w : World) (hv : IntsAt w B v zs) :
    Calls Tryz.prog 118 #[v, .func (.func 75) #[] #[]] w fun e w' => e = .returned (.int .i64 (fiO 0 zs)) ∧ w = w' := by
  obtain ⟨A, c, rfl, hc1, hc2, hc3⟩ := hv.form
  unfold maxLen at hc2
  have Hf : Hid (fiO 0 zs = fiO 0 (zs.drop 0)) := rfl
  obtain ⟨r, Hr⟩ : ∃ r, Hid (fiO 0 zs = r) := ⟨_, rfl⟩
  rw [Hr.out] at Hf ⊢
  clear Hr
  go_enter Tryz.func118, Tryz.ntmps118
  go_wp2_with fail
  go_loopg [8, 5] zs.length (fun gk s8 _ wr => ∃ k : Nat, k + gk = zs.length ∧ s8 = .int .i64 k ∧ Hid (r = fiO k (zs.drop k)) ∧ w = wr)
  case atStart => exact ⟨0, by omega, rfl, Hf, rfl⟩
  case round =>
    clear Hf
    obtain ⟨k, hk, rfl, Hf, rfl⟩ := hrel
    cases gk with
    | zero =>
      obtain rfl : k = zs.length := by omega
      have Hr : Hid (r = -1) := by show _ = _; rw [Hf.out, List.drop_length]; rfl
      go_wp2_with fail
      go_ret
      exact ⟨by rw [Hr.out]; rfl, rfl⟩
    | succ gk =>
      have hlt : k < zs.length := by omega
      obtain ⟨g, o, rfl, _, hcell⟩ := hc3 (by intro h0; subst h0; simp at hlt)
      obtain ⟨x, Hc, hzk⟩ : ∃ x, Hid (zs.drop k = x :: zs.drop (k + 1)) ∧ w.cell? ⟨g, o + k, none⟩ = some (.int .i64 x) :=
        ⟨zs[k], by show zs.drop k = _; rw [List.drop_eq_getElem_cons hlt], by rw [hcell k hlt, List.getD_eq_getElem?_getD, List.getElem?_eq_getElem hlt]; rfl⟩
      have hlk : (k : Int) < (zs.length : Int) := by omega
      have hl0 : (0 : Int) ≤ (k : Int) := by omega
      have HO := Lib.hid (fun W => out_calls x W)
      clear hcell hc3
      cases hi : outR x
      · have Hr : Hid (r = fiO (k + 1) (zs.drop (k + 1))) := by show _ = _; rw [Hf.out, Hc.out, fiO, hi]; rfl
        rw [hi] at HO
        clear hi
        go_wp2_with fail
        with_reducible refine (HO.out _).mono ?_
        rintro e w' ⟨rfl, rfl⟩
        go_wp2_with fail
        go_roundg gk
        case measure => omega
        case rel => exact ⟨k + 1, by omega, by go_num, Hr, rfl⟩
      · have Hr : Hid (r = k) := by show _ = _; rw [Hf.out, Hc.out, fiO, hi]; rfl
        rw [hi] at HO
        clear hi
        go_wp2_with fail
        with_reducible refine (HO.out _).mono ?_
        rintro e w' ⟨rfl, rfl⟩
        go_wp2_with fail
        go_ret
        exact ⟨by rw [Hr.out]; rfl, rfl⟩
set_option maxHeartbeats 1000000 in
theorem found_calls (zs : List Int) (v : Value) (B : Nat) (w : World) (hv : IntsAt w B v zs) :
    Calls Tryz.prog 76 #[v, .func (.func 75) #[] #[]] w fun e w' => ∃ x : Int, e = .returned (.tuple #[.int .i64 x, .bool (zs.any outR)]) ∧ w = w' := by
  have HI := Lib.hid (indexOut_calls zs v B w hv)
  obtain ⟨A, c, rfl, hc1, hc2, hc3⟩ := hv.form
  obtain ⟨h1, h2, h3⟩ := fiO_any zs 0
  rw [h1]
  generalize fiO 0 zs = i at *
  clear h1
  by_cases hi : i < 0
  · have Hv : Hid (decide (0 ≤ i) = false) := decide_eq_false (by omega)
    rw [Hv.out]
    go_enter Tryz.func76, Tryz.ntmps76
    go_wp2_with fail
    with_reducible refine HI.out.mono ?_
    rintro e w' ⟨rfl, rfl⟩
    go_wp2_with fail
    go_ret2
    exact ⟨_, rfl, rfl⟩
  · have Hv : Hid (decide (0 ≤ i) = true) := decide_eq_true (by omega)
    rw [Hv.out]
    obtain ⟨k, rfl⟩ : ∃ k : Nat, i = k := ⟨i.toNat, by omega⟩
    have hlt : k < zs.length := by omega
    obtain ⟨g, o, rfl, _, hcell⟩ := hc3 (by intro h0; subst h0; simp at hlt)
    have hzk := hcell k hlt
    have hlk : (k : Int) < (zs.length : Int) := by omega
    have hl0 : (0 : Int) ≤ (k : Int) := by omega
    clear hcell hc3
    go_enter Tryz.func76, Tryz.ntmps76
    go_wp2_with fail
    with_reducible refine HI.out.mono ?_
    rintro e w' ⟨rfl, rfl⟩
    go_wp2_with fail
    go_ret2
    exact ⟨_, rfl, rfl⟩
theorem chk_ne {k : Int} (h : arity k ≠ 0) : k ≤ 14 := by
  unfold arity at h
  by_cases h1 : k ≤ 14
  · exact h1
  · exact absurd (by rw [if_neg (by omega), if_neg (by omega), if_neg (by omega)]) h
set_option maxRecDepth 100000 in
set_option maxHeartbeats 8000000 in
theorem Show_calls (g : Gt) (wv : Value) (B : Nat) (w : World) (hB : B ≤ w.heap.size) (hv : IntsAt w B wv g.wires) (ht : Tabs w) :
    Calls Tryz.prog 31 #[.agg #[.int .i64 g.kind, wv, .int .i64 g.bit, .int .i64 g.ifn]] w fun e w' => e = .returned (.tuple #[.string (bs (sShow g).1), .int .i64 (sShow g).2]) ∧ Below w.heap.size w w' := by
  have HG := Lib.hid (fun W' (hs : Shows g) (hB : B ≤ W'.heap.size) (hv : IntsAt W' B wv g.wires) (ht : Tabs W') => shown_calls g hs wv B W' hB hv ht)
  have HSh : Hid (g.wires.any outR = false → 0 ≤ g.bit ∧ g.bit ≤ 999 → 0 ≤ g.ifn ∧ g.ifn ≤ 1000 → g.wires.length ≤ 3 → Shows g) := fun h1 h2 h3 h4 =>
    ⟨fun x hx => by
      have := List.any_eq_false.1 h1 x hx
      simp only [outR, Bool.or_eq_true, decide_eq_true_eq] at this
      omega, by omega, h2, h3⟩
  have Har := Lib.hid (arity_le g.kind)
  obtain ⟨k, zs, b, f⟩ := g
  dsimp only at hv HG HSh Har ⊢
  obtain ⟨A, c, rfl, hc1, hc2, _⟩ := hv.form
  have hx := Blk.new w 61 #[.int .i64 k, .slice A zs.length c, .int .i64 b, .int .i64 f]
  have hb := below1 w (.cells #[.int .i64 k, .slice A zs.length c, .int .i64 b, .int .i64 f] 61)
  have hv := hv.below (hb.mono hB)
  have ht := ht.below hb
  have HA := Lib.hid (fun W' => Arity_calls k W')
  have HFo := Lib.hid (found_calls zs _ B _ hv)
  have HO := Lib.hid (fun W' => out_calls b W')
  have Hc : Hid (sShow ⟨k, zs, b, f⟩ = if arity k = 0 then ([], 3) else if (zs.length : Int) ≠ arity k then ([], 2) else if zs.any outR || outR b || decide (f < 0) || decide (1000 < f) then ([], 3) else if (k ≠ 13 ∧ b ≠ 0) ∨ ((k = 13 ∨ k = 14) ∧ f ≠ 0) then ([], 7) else (shownP ⟨k, zs, b, f⟩, 0)) := rfl
  generalize sShow ⟨k, zs, b, f⟩ = cg at *
  generalize shownP ⟨k, zs, b, f⟩ = sg at *
  have Hk14 : Hid (arity k ≠ 0 → k ≤ 14) := fun h => chk_ne h
  obtain ⟨ar, har⟩ : ∃ a, arity k = a := ⟨_, rfl⟩
  rw [har] at HA Hc Hk14 Har
  obtain ⟨an, han⟩ : ∃ x, zs.any outR = x := ⟨_, rfl⟩
  rw [han] at HFo Hc HSh
  have Hob : Hid (outR b = (decide (b < 0) || decide (999 < b))) := rfl
  obtain ⟨ob, hob⟩ : ∃ x, outR b = x := ⟨_, rfl⟩
  rw [hob] at HO Hc Hob
  clear har han hob
  obtain ⟨k4, hk4⟩ : ∃ x, (k == 13) = x := ⟨_, rfl⟩
  have Hk4 := Lib.hid hk4
  go_enter Tryz.func31, Tryz.ntmps31
  go_upto_region 1 with fail
  generalize w.alloc (.cells #[.int .i64 k, .slice A zs.length c, .int .i64 b, .int .i64 f] 61) = wa at *
  obtain ⟨x0, x1, x2, x3, xf⟩ := hx.cells4
  go_wp2_with fail
  with_reducible refine HFo.out.mono ?_
  rintro e w1 ⟨x, rfl, rfl⟩
  clear HFo
  by_cases h0 : ar = 0
  · have Hr : Hid (cg = ([], 3)) := by show _ = _; rw [Hc.out, if_pos h0]
    subst h0
    go_wp2_with (go_at_call 77; (with_reducible refine (HA.out _).mono ?_); rintro e w1 ⟨rfl, rfl⟩)
    go_ret2
    exact ⟨by rw [Hr.out]; rfl, hb⟩
  · have h0b : (ar == 0) = false := by simpa using h0
    have hk14 := Hk14.out h0
    go_upto_region 6 with (go_at_call 77; (with_reducible refine (HA.out _).mono ?_); rintro e w1 ⟨rfl, rfl⟩)
    go_quiet ((go_at_call 77; exact Calls.quiet_of_same ((HA.out _).mono fun _ _ h => ⟨h.1, h.2.symm⟩)))
    have hx := hx.drewN nq
    have hb := belowN hb nq
    have hv : IntsAt (wa.drewN nq) B (.slice A zs.length c) zs := hv.keep fun _ _ => rfl
    have ht : Tabs (wa.drewN nq) := ht.below (belowN (Below.refl _ _) nq)
    clear x0 x1 x2 x3 xf
    generalize wa.drewN nq = wb at *
    obtain ⟨x0, x1, x2, x3, xf⟩ := hx.cells4
    by_cases h1 : (zs.length : Int) = ar
    · rw [if_neg h0, if_neg (by omega)] at Hc
      have hl3 : zs.length ≤ 3 := by have := Har.out; omega
      subst h1
      simp only [bne_self_eq_false]
      clear h0 h0b HA Har Hk14
      cases an
      · cases ob
        · by_cases hf0 : f < 0
          · have ef0 : decide (f < 0) = true := decide_eq_true hf0
            have Hr : Hid (cg = ([], 3)) := by show _ = _; rw [Hc.out, if_pos (by rw [ef0]; rfl)]
            go_wp2_with (first | (go_at_call 77; (with_reducible refine (HA.out _).mono ?_); rintro e w1 ⟨rfl, rfl⟩) | (go_at_call 75; (with_reducible refine (HO.out _).mono ?_); rintro e w1 ⟨rfl, rfl⟩))
            go_ret2
            exact ⟨by rw [Hr.out]; rfl, hb⟩
          · have ef0 : decide (f < 0) = false := decide_eq_false hf0
            by_cases hf1 : 1000 < f
            · have ef1 : decide (1000 < f) = true := decide_eq_true hf1
              have Hr : Hid (cg = ([], 3)) := by show _ = _; rw [Hc.out, if_pos (by rw [ef0, ef1]; rfl)]
              go_wp2_with (first | (go_at_call 77; (with_reducible refine (HA.out _).mono ?_); rintro e w1 ⟨rfl, rfl⟩) | (go_at_call 75; (with_reducible refine (HO.out _).mono ?_); rintro e w1 ⟨rfl, rfl⟩))
              go_ret2
              exact ⟨by rw [Hr.out]; rfl, hb⟩
            · have ef1 : decide (1000 < f) = false := decide_eq_false hf1
              rw [if_neg (by rw [ef0, ef1]; decide)] at Hc
              have hbr : 0 ≤ b ∧ b ≤ 999 := by
                have := Hob.out
                simp only [Bool.false_eq, Bool.or_eq_false_iff, decide_eq_false_iff_not] at this
                omega
              have HSf := Lib.hid (HSh.out rfl hbr ⟨by omega, by omega⟩ hl3)
              have hBw : B ≤ wb.heap.size := Nat.le_trans hB hb.size
              by_cases hk13 : k = 13
              · have e4 : k4 = true := by rw [← Hk4.out, hk13]; rfl
                subst e4
                by_cases hf : f = 0
                · have ef : (f != 0) = false := by simp [hf]
                  have Hr : Hid (cg = (sg, 0)) := by show _ = _; rw [Hc.out, if_neg (by omega)]
                  clear hf hk13
                  go_wp2_with (first | (go_at_call 75; (with_reducible refine (HO.out _).mono ?_); rintro e w1 ⟨rfl, rfl⟩) | (go_at_call 49; (with_reducible refine (HG.out _ HSf.out hBw hv ht).mono ?_); rintro e w2 ⟨rfl, hb2⟩))
                  go_ret2
                  exact ⟨by rw [Hr.out] <;> rfl, bt hb2 hb hb.size⟩
                · have ef : (f != 0) = true := by simp [hf]
                  have Hr : Hid (cg = ([], 7)) := by show _ = _; rw [Hc.out, if_pos (by omega)]
                  clear hf hk13
                  go_wp2_with (first | (go_at_call 75; (with_reducible refine (HO.out _).mono ?_); rintro e w1 ⟨rfl, rfl⟩) | (go_at_call 49; (with_reducible refine (HG.out _ HSf.out hBw hv ht).mono ?_); rintro e w2 ⟨rfl, hb2⟩))
                  go_ret2
                  exact ⟨by rw [Hr.out]; rfl, hb⟩
              · have e4 : k4 = false := by rw [← Hk4.out]; simpa using hk13
                subst e4
                by_cases hbz : b = 0
                · have eb : (b != 0) = false := by simp [hbz]
                  by_cases hk9 : k = 14
                  · have e9 : (k == 14) = true := by simp [hk9]
                    by_cases hf : f = 0
                    · have ef : (f != 0) = false := by simp [hf]
                      have Hr : Hid (cg = (sg, 0)) := by show _ = _; rw [Hc.out, if_neg (by omega)]
                      clear hf hk13 hbz hk9
                      go_wp2_with (first | (go_at_call 75; (with_reducible refine (HO.out _).mono ?_); rintro e w1 ⟨rfl, rfl⟩) | (go_at_call 49; (with_reducible refine (HG.out _ HSf.out hBw hv ht).mono ?_); rintro e w2 ⟨rfl, hb2⟩))
                      go_ret2
                      exact ⟨by rw [Hr.out] <;> rfl, bt hb2 hb hb.size⟩
                    · have ef : (f != 0) = true := by simp [hf]
                      have Hr : Hid (cg = ([], 7)) := by show _ = _; rw [Hc.out, if_pos (by omega)]
                      clear hf hk13 hbz hk9
                      go_wp2_with (first | (go_at_call 75; (with_reducible refine (HO.out _).mono ?_); rintro e w1 ⟨rfl, rfl⟩) | (go_at_call 49; (with_reducible refine (HG.out _ HSf.out hBw hv ht).mono ?_); rintro e w2 ⟨rfl, hb2⟩))
                      go_ret2
                      exact ⟨by rw [Hr.out]; rfl, hb⟩
                  · have e9 : (k == 14) = false := by simpa using hk9
                    have Hr : Hid (cg = (sg, 0)) := by show _ = _; rw [Hc.out, if_neg (by omega)]
                    clear hk13 hbz hk9
                    go_wp2_with (first | (go_at_call 75; (with_reducible refine (HO.out _).mono ?_); rintro e w1 ⟨rfl, rfl⟩) | (go_at_call 49; (with_reducible refine (HG.out _ HSf.out hBw hv ht).mono ?_); rintro e w2 ⟨rfl, hb2⟩))
                    go_ret2
                    exact ⟨by rw [Hr.out] <;> rfl, bt hb2 hb hb.size⟩
                · have eb : (b != 0) = true := by simp [hbz]
                  have Hr : Hid (cg = ([], 7)) := by show _ = _; rw [Hc.out, if_pos (by omega)]
                  clear hk13 hbz
                  go_wp2_with (first | (go_at_call 75; (with_reducible refine (HO.out _).mono ?_); rintro e w1 ⟨rfl, rfl⟩) | (go_at_call 49; (with_reducible refine (HG.out _ HSf.out hBw hv ht).mono ?_); rintro e w2 ⟨rfl, hb2⟩))
                  go_ret2
                  exact ⟨by rw [Hr.out]; rfl, hb⟩
        · have Hr : Hid (cg = ([], 3)) := by show _ = _; rw [Hc.out, if_pos (by simp)]
          go_wp2_with (first | (go_at_call 77; (with_reducible refine (HA.out _).mono ?_); rintro e w1 ⟨rfl, rfl⟩) | (go_at_call 75; (with_reducible refine (HO.out _).mono ?_); rintro e w1 ⟨rfl, rfl⟩))
          go_ret2
          exact ⟨by rw [Hr.out]; rfl, hb⟩
      · have Hr : Hid (cg = ([], 3)) := by show _ = _; rw [Hc.out, if_pos (by simp)]
        go_wp2_with (first | (go_at_call 77; (with_reducible refine (HA.out _).mono ?_); rintro e w1 ⟨rfl, rfl⟩) | (go_at_call 75; (with_reducible refine (HO.out _).mono ?_); rintro e w1 ⟨rfl, rfl⟩))
        go_ret2
        exact ⟨by rw [Hr.out]; rfl, hb⟩
    · rw [if_neg h0, if_pos h1] at Hc
      have h1b : ((zs.length : Int) != ar) = true := by simpa using h1
      clear h0 h1
      go_wp2_with fail
      go_ret2
      exact ⟨by rw [Hc.out]; rfl, hb⟩
end Go.Proofs.YtonnegkpjmhomaaGreatDoor
end
