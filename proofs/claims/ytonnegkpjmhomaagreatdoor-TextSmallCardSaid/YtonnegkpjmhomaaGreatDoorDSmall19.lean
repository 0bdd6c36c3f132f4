import Derived.Test.YtonnegkpjmhomaaGreatDoorDSmall9
set_option linter.all false
section
set_option linter.all false
namespace Go.Proofs.YtonnegkpjmhomaaGreatDoor
open Go.RowKit
theorem refOff_calls (n lo hi : Int) (w : World) : Calls Tryz.prog 114 #[.int .i64 n, .int .i64 lo, .int .i64 hi] w fun e w' => e = .returned (.bool (decide (n < lo) || decide (hi < n))) ∧ w = w' := by
  cases h1 : decide (n < lo)
  · have Hv : Hid ((false || decide (hi < n)) = decide (hi < n)) := rfl
    rw [Hv.out]
    go_enter Tryz.func114, Tryz.ntmps114
    go_wp2_with fail
    go_ret
    exact ⟨rfl, rfl⟩
  · have Hv : Hid ((true || decide (hi < n)) = true) := rfl
    rw [Hv.out]
    go_enter Tryz.func114, Tryz.ntmps114
    go_wp2_with fail
    go_ret
    exact ⟨rfl, rfl⟩
theorem refOff5_calls (n lo hi : Int) (w : World) : Calls Tryz.prog 99 #[.int .i64 n, .int .i64 lo, .int .i64 hi] w fun e w' => e = .returned (.bool (decide (n < lo) || decide (hi < n))) ∧ w = w' := by
  cases h1 : decide (n < lo)
  · have Hv : Hid ((false || decide (hi < n)) = decide (hi < n)) := rfl
    rw [Hv.out]
    go_enter Tryz.func99, Tryz.ntmps99
    go_wp2_with fail
    go_ret
    exact ⟨rfl, rfl⟩
  · have Hv : Hid ((true || decide (hi < n)) = true) := rfl
    rw [Hv.out]
    go_enter Tryz.func99, Tryz.ntmps99
    go_wp2_with fail
    go_ret
    exact ⟨rfl, rfl⟩
set_option maxRecDepth 100000 in
set_option maxHeartbeats 2000000 in
theorem refHas_calls (zs : List Int) (A : Option Addr) (k c B : Nat) (x : Int) (w : World) (hk : k ≤ zs.length) (hz : zs.length ≤ 1000000) (hc : zs ≠ [] → ∃ g o, A = some ⟨g, o, none⟩ ∧ g < B ∧ ∀ j, j < zs.length → w.cell? ⟨g, o + j, none⟩ = some (.int .i64 (zs.getD j 0))) :
    Calls Tryz.prog 154 #[.slice A k c, .int .i64 x] w fun e w' => e = .returned (.bool ((zs.take k).contains x)) ∧ w = w' := by
  obtain ⟨r, Hr⟩ : ∃ r, Hid ((zs.take k).contains x = r) := ⟨_, rfl⟩
  rw [Hr.out]
  have Hr : Hid (((zs.take k).drop 0).contains x = r) := Hr.out
  go_enter Tryz.func154, Tryz.ntmps154
  go_wp2_with fail
  go_loopg [5] k (fun gk s3 wr => ∃ j : Nat, j + gk = k ∧ s3 = .int .i64 j ∧ w = wr ∧ Hid (((zs.take k).drop j).contains x = r))
  case atStart => exact ⟨0, by omega, rfl, rfl, Hr⟩
  case round =>
    clear Hr
    obtain ⟨j, hj, rfl, rfl, Hj⟩ := hrel
    cases gk with
    | zero =>
      obtain rfl : j = k := by omega
      have Hv : Hid (r = false) := by
        show _ = _
        rw [← Hj.out, List.drop_of_length_le (by rw [List.length_take]; omega)]; rfl
      go_wp2_with fail
      go_ret
      exact ⟨by rw [Hv.out] <;> rfl, rfl⟩
    | succ gk =>
      have hlt : j < zs.length := by omega
      obtain ⟨g, o, rfl, _, hcell⟩ := hc (by intro h0; subst h0; simp at hlt)
      obtain ⟨y, hy⟩ : ∃ y, zs[j]? = some y := ⟨zs[j], List.getElem?_eq_getElem hlt⟩
      have hxk : w.cell? ⟨g, o + j, none⟩ = some (.int .i64 y) := by
        rw [hcell j hlt, List.getD_eq_getElem?_getD, hy]; rfl
      have Hd : Hid ((zs.take k).drop j = y :: (zs.take k).drop (j + 1)) := by
        show _ = _
        have h1 : j < (zs.take k).length := by rw [List.length_take]; omega
        rw [List.drop_eq_getElem_cons h1]
        congr 1
        have h2 : (zs.take k)[j]? = some y := by rw [List.getElem?_take, if_pos (by omega), hy]
        rw [List.getElem?_eq_getElem h1] at h2
        exact Option.some.inj h2
      have hlk : (j : Int) < (k : Int) := by omega
      have hl0 : (0 : Int) ≤ (j : Int) := by omega
      clear hcell hc hy
      cases hq : y == x
      · have Hv : Hid (((zs.take k).drop (j + 1)).contains x = r) := by
          show _ = _
          rw [← Hj.out, Hd.out, List.contains_cons, Bool.beq_comm, hq]; rfl
        have hq2 : ((y : Int) == x) = false := hq
        clear hq
        go_wp2_with fail
        go_roundg gk
        case measure => omega
        case rel => exact ⟨j + 1, by omega, by go_num, rfl, Hv⟩
      · have Hv : Hid (r = true) := by
          show _ = _
          rw [← Hj.out, Hd.out, List.contains_cons, Bool.beq_comm, hq]; rfl
        have hq2 : ((y : Int) == x) = true := hq
        clear hq
        go_wp2_with fail
        go_ret
        exact ⟨by rw [Hv.out] <;> rfl, rfl⟩
set_option maxRecDepth 100000 in
set_option maxHeartbeats 4000000 in
theorem refArity_any (k : Int) (w : World) : Calls Tryz.prog 116 #[.int .i64 k] w fun e w' => e = .returned (.int .i64 (arity k)) ∧ w = w' := by
  by_cases h : 0 ≤ k ∧ k ≤ 14
  · obtain rfl | rfl | rfl | rfl | rfl | rfl | rfl | rfl | rfl | rfl | rfl | rfl | rfl | rfl | rfl : k = 0 ∨ k = 1 ∨ k = 2 ∨ k = 3 ∨ k = 4 ∨ k = 5 ∨ k = 6 ∨ k = 7 ∨ k = 8 ∨ k = 9 ∨ k = 10 ∨ k = 11 ∨ k = 12 ∨ k = 13 ∨ k = 14 := by omega
    all_goals
      clear h
      go_enter Tryz.func116, Tryz.ntmps116
      go_wp2_with fail
      go_ret
      exact ⟨rfl, rfl⟩
  · have Hv : Hid (arity k = 0) := by show _ = _; unfold arity; rw [if_neg (by omega), if_neg (by omega), if_neg (by omega)]
    rw [Hv.out]
    have e12 : (k == 12) = false := by rw [beq_eq_false_iff_ne]; omega
    have e13 : (k == 13) = false := by rw [beq_eq_false_iff_ne]; omega
    have e14 : (k == 14) = false := by rw [beq_eq_false_iff_ne]; omega
    by_cases h1 : 0 ≤ k
    · have d1 : decide ((1 : Int) ≤ k) = true := decide_eq_true (by omega)
      have d2 : decide (k ≤ 8) = false := decide_eq_false (by omega)
      have d3 : decide ((9 : Int) ≤ k) = true := decide_eq_true (by omega)
      have d4 : decide (k ≤ 11) = false := decide_eq_false (by omega)
      clear h h1
      go_enter Tryz.func116, Tryz.ntmps116
      go_wp2_with fail
      go_ret
      exact ⟨rfl, rfl⟩
    · have d1 : decide ((1 : Int) ≤ k) = false := decide_eq_false (by omega)
      have d3 : decide ((9 : Int) ≤ k) = false := decide_eq_false (by omega)
      clear h h1
      go_enter Tryz.func116, Tryz.ntmps116
      go_wp2_with fail
      go_ret
      exact ⟨rfl, rfl⟩
theorem wireB_off (W n : Int) : (decide (n < 0) || decide (W - 1 < n)) = !wireB W n := by
  unfold wireB
  by_cases h1 : n < 0
  · rw [decide_eq_true h1, decide_eq_false (show ¬ 0 ≤ n by omega)]; rfl
  · rw [decide_eq_false h1, decide_eq_true (show 0 ≤ n by omega)]
    by_cases h2 : W - 1 < n
    · rw [decide_eq_true h2, decide_eq_false (show ¬ n < W by omega)]; rfl
    · rw [decide_eq_false h2, decide_eq_true (show n < W by omega)]; rfl
set_option maxRecDepth 100000 in
set_option maxHeartbeats 8000000 in
theorem refCheckGate_calls (W Bt : Int) (hW : 1 ≤ W ∧ W ≤ 12) (hBt : 0 ≤ Bt ∧ Bt ≤ 8) (wv : Value) (g : Gt) (B : Nat) (w : World) (hB : B ≤ w.heap.size) (hv : IntsAt w B wv g.wires) (hl : g.wires.length ≤ 1000000) :
    Calls Tryz.prog 115 #[.agg #[.int .i64 g.kind, wv, .int .i64 g.bit, .int .i64 g.ifn], .int .i64 W, .int .i64 Bt] w fun e w' => e = .returned (.int .i64 (chkG W Bt g)) ∧ Below w.heap.size w w' := by
  obtain ⟨k, zs, bit, ifn⟩ := g
  dsimp only at hv hl ⊢
  obtain ⟨A, c, rfl, hc1, hc2, hc3⟩ := hv.form
  have Hc0 := Lib.hid hc3
  have hx := Blk.new w 61 #[.int .i64 k, .slice A zs.length c, .int .i64 bit, .int .i64 ifn]
  have hb := below1 w (.cells #[.int .i64 k, .slice A zs.length c, .int .i64 bit, .int .i64 ifn] 61)
  have HA := Lib.hid (fun W' => refArity_any k W')
  have HOw := Lib.hid (fun n W' => (wireB_off W n) ▸ refOff_calls n 0 (W - 1) W')
  have Hc : Hid (chkG W Bt ⟨k, zs, bit, ifn⟩ = if arity k = 0 then 3 else if (zs.length : Int) ≠ arity k then 2 else if zs.all (wireB W) = false then 1 else if dupI zs then 5 else if ifn < 0 ∨ Bt < ifn ∨ (k = 13 ∧ (bit < 0 ∨ Bt ≤ bit)) then 1 else if ((k = 13 ∨ k = 14) ∧ ifn ≠ 0) ∨ (k ≠ 13 ∧ bit ≠ 0) then 7 else 0) := rfl
  generalize chkG W Bt ⟨k, zs, bit, ifn⟩ = cg at *
  have hv := hv.below (hb.mono hB)
  have hc3 : zs ≠ [] → ∃ g' o, A = some ⟨g', o, none⟩ ∧ g' < B ∧ ∀ j, j < zs.length → (w.alloc (.cells #[.int .i64 k, .slice A zs.length c, .int .i64 bit, .int .i64 ifn] 61)).cell? ⟨g', o + j, none⟩ = some (.int .i64 (zs.getD j 0)) := fun hz => by
    obtain ⟨g', o, ha, hg, hcell⟩ := hc3 hz
    exact ⟨g', o, ha, hg, fun j hj => (hb.cell (p := ⟨g', o + j, none⟩) (by show g' < _; omega)).trans (hcell j hj)⟩
  have Hk14 : Hid (arity k = 0 ∨ k ≤ 14) := by
    show _ ∨ _
    unfold arity
    by_cases h : k ≤ 14
    · exact .inr h
    · left; rw [if_neg (by omega), if_neg (by omega), if_neg (by omega)]
  obtain ⟨ar, har⟩ : ∃ a, arity k = a := ⟨_, rfl⟩
  rw [har] at HA Hc Hk14
  clear har hv
  have hw1 : IntKind.i64.wrap (W - 1) = W - 1 := IntWalk.i64_in _ (by omega)
  have hb1 : IntKind.i64.wrap (Bt - 1) = Bt - 1 := IntWalk.i64_in _ (by omega)
  obtain ⟨hW1, hW2⟩ := hW
  obtain ⟨hB1, hB2⟩ := hBt
  go_enter Tryz.func115, Tryz.ntmps115
  go_upto_region 1 with fail
  generalize w.alloc (.cells #[.int .i64 k, .slice A zs.length c, .int .i64 bit, .int .i64 ifn] 61) = wa at *
  obtain ⟨x0, x1, x2, x3, xf⟩ := hx.cells4
  by_cases h0 : ar = 0
  · have Hr : Hid (cg = 3) := by show _ = _; rw [Hc.out, if_pos h0]
    subst h0
    go_wp2_with (go_at_call 116; (with_reducible refine (HA.out _).mono ?_); rintro e w1 ⟨rfl, rfl⟩)
    go_ret
    exact ⟨by rw [Hr.out]; rfl, hb⟩
  · have h0b : (ar == 0) = false := by simpa using h0
    go_upto_region 3 with (go_at_call 116; (with_reducible refine (HA.out _).mono ?_); rintro e w1 ⟨rfl, rfl⟩)
    go_quiet ((go_at_call 116; exact Calls.quiet_of_same ((HA.out _).mono fun _ _ h => ⟨h.1, h.2.symm⟩)))
    have hx := hx.drewN nq
    have hb := belowN hb nq
    have hc3 : zs ≠ [] → ∃ g' o, A = some ⟨g', o, none⟩ ∧ g' < B ∧ ∀ j, j < zs.length → (wa.drewN nq).cell? ⟨g', o + j, none⟩ = some (.int .i64 (zs.getD j 0)) := hc3
    clear x0 x1 x2 x3 xf
    generalize wa.drewN nq = wb at *
    obtain ⟨x0, x1, x2, x3, xf⟩ := hx.cells4
    by_cases h1 : (zs.length : Int) = ar
    · have Hc1 : Hid (cg = if zs.all (wireB W) = false then 1 else if dupI zs then 5 else if ifn < 0 ∨ Bt < ifn ∨ (k = 13 ∧ (bit < 0 ∨ Bt ≤ bit)) then 1 else if ((k = 13 ∨ k = 14) ∧ ifn ≠ 0) ∨ (k ≠ 13 ∧ bit ≠ 0) then 7 else 0) := by
        show _ = _; rw [Hc.out, if_neg h0, if_neg (by omega)]
      have hk14 : k ≤ 14 := Hk14.out.resolve_left h0
      have Hk := Lib.hid hk14
      clear hk14 Hk14 Hc h0 HA
      subst h1
      simp only [bne_self_eq_false]
      go_wp2_with fail
      go_loopg [7] zs.length (fun gk s7 wr => ∃ j : Nat, j + gk = zs.length ∧ s7 = .int .i64 j ∧ wb = wr ∧ Hid (zs.all (wireB W) = (zs.drop j).all (wireB W)))
      case atStart => exact ⟨0, by omega, rfl, rfl, rfl⟩
      case round =>
        obtain ⟨j, hj, rfl, rfl, Hj⟩ := hrel
        cases gk with
        | zero =>
          obtain rfl : j = zs.length := by omega
          have Hc2 : Hid (cg = if dupI zs then 5 else if ifn < 0 ∨ Bt < ifn ∨ (k = 13 ∧ (bit < 0 ∨ Bt ≤ bit)) then 1 else if ((k = 13 ∨ k = 14) ∧ ifn ≠ 0) ∨ (k ≠ 13 ∧ bit ≠ 0) then 7 else 0) := by
            show _ = _; rw [Hc1.out, if_neg]; rw [Hj.out, List.drop_length]; simp
          clear Hj Hc1 hc3
          have hbz := hb.size
          go_wp2_with fail
          clear x0 x1 x2 x3 xf
          go_loopg [8] zs.length (fun gk s8 wr => ∃ j : Nat, j + gk = zs.length ∧ s8 = .int .i64 j ∧ Blk wr w.heap.size 61 #[.int .i64 k, .slice A zs.length c, .int .i64 bit, .int .i64 ifn] ∧ Below w.heap.size w wr ∧ Hid (dupI zs = dupF (zs.take j) (zs.drop j)))
          case atStart => exact ⟨0, by omega, rfl, hx, hb, rfl⟩
          case round =>
            clear hx hb
            obtain ⟨j, hj, rfl, hx, hb, Hj⟩ := hrel
            obtain ⟨x0, x1, x2, x3, xf⟩ := hx.cells4
            cases gk with
            | zero =>
              obtain rfl : j = zs.length := by omega
              have Hc3 : Hid (cg = if ifn < 0 ∨ Bt < ifn ∨ (k = 13 ∧ (bit < 0 ∨ Bt ≤ bit)) then 1 else if ((k = 13 ∨ k = 14) ∧ ifn ≠ 0) ∨ (k ≠ 13 ∧ bit ≠ 0) then 7 else 0) := by
                show _ = _; rw [Hc2.out, if_neg]; rw [Hj.out, List.drop_length]; simp [dupF]
              have HO1 := Lib.hid (fun W' => refOff_calls ifn 0 Bt W')
              have HO2 := Lib.hid (fun W' => refOff_calls bit 0 (Bt - 1) W')
              have hk14 := Hk.out
              clear Hj Hc2
              by_cases h5 : ifn < 0 ∨ Bt < ifn
              · have e5 : (decide (ifn < 0) || decide (Bt < ifn)) = true := by simpa using h5
                rw [e5] at HO1
                have Hr : Hid (cg = 1) := by show _ = _; rw [Hc3.out, if_pos (by omega)]
                clear Hc3
                try clear h7
                try clear h8
                go_wp2_with (go_at_call 114; (first | (with_reducible refine (HO1.out _).mono ?_) | (with_reducible refine (HO2.out _).mono ?_)); rintro e w2 ⟨rfl, rfl⟩)
                go_ret
                exact ⟨by rw [Hr.out]; rfl, hb⟩
              · have e5 : (decide (ifn < 0) || decide (Bt < ifn)) = false := by simp; omega
                rw [e5] at HO1
                by_cases hk : k = 13
                · subst hk
                  by_cases h6 : bit < 0 ∨ Bt ≤ bit
                  · have e6 : (decide (bit < 0) || decide (Bt - 1 < bit)) = true := by simp; omega
                    rw [e6] at HO2
                    have Hr : Hid (cg = 1) := by show _ = _; rw [Hc3.out, if_pos (by omega)]
                    clear Hc3
                    try clear h7
                    try clear h8
                    go_wp2_with (go_at_call 114; (first | (with_reducible refine (HO1.out _).mono ?_) | (with_reducible refine (HO2.out _).mono ?_)); rintro e w2 ⟨rfl, rfl⟩)
                    go_ret
                    exact ⟨by rw [Hr.out]; rfl, hb⟩
                  · have e6 : (decide (bit < 0) || decide (Bt - 1 < bit)) = false := by simp; omega
                    rw [e6] at HO2
                    by_cases h7 : ifn = 0
                    · have e7 : (ifn != 0) = false := by simp [h7]
                      have Hr : Hid (cg = 0) := by show _ = _; rw [Hc3.out, if_neg (by omega), if_neg (by omega)]
                      clear Hc3
                      try clear h7
                      try clear h8
                      go_wp2_with (go_at_call 114; (first | (with_reducible refine (HO1.out _).mono ?_) | (with_reducible refine (HO2.out _).mono ?_)); rintro e w2 ⟨rfl, rfl⟩)
                      go_ret
                      exact ⟨by rw [Hr.out]; rfl, hb⟩
                    · have e7 : (ifn != 0) = true := by simp [h7]
                      have Hr : Hid (cg = 7) := by show _ = _; rw [Hc3.out, if_neg (by omega), if_pos (by omega)]
                      clear Hc3
                      try clear h7
                      try clear h8
                      go_wp2_with (go_at_call 114; (first | (with_reducible refine (HO1.out _).mono ?_) | (with_reducible refine (HO2.out _).mono ?_)); rintro e w2 ⟨rfl, rfl⟩)
                      go_ret
                      exact ⟨by rw [Hr.out]; rfl, hb⟩
                · have ek : (k == 13) = false := by simpa using hk
                  have ek2 : (k != 13) = true := by simpa using hk
                  by_cases h8 : bit = 0
                  · have e8 : (bit != 0) = false := by simp [h8]
                    by_cases h9 : 13 ≤ k
                    · have e9 : decide ((13 : Int) ≤ k) = true := decide_eq_true h9
                      by_cases h7 : ifn = 0
                      · have e7 : (ifn != 0) = false := by simp [h7]
                        have Hr : Hid (cg = 0) := by show _ = _; rw [Hc3.out, if_neg (by omega), if_neg (by omega)]
                        clear Hc3
                        try clear h7
                        try clear h8
                        go_wp2_with (go_at_call 114; (first | (with_reducible refine (HO1.out _).mono ?_) | (with_reducible refine (HO2.out _).mono ?_)); rintro e w2 ⟨rfl, rfl⟩)
                        go_ret
                        exact ⟨by rw [Hr.out]; rfl, hb⟩
                      · have e7 : (ifn != 0) = true := by simp [h7]
                        have Hr : Hid (cg = 7) := by show _ = _; rw [Hc3.out, if_neg (by omega), if_pos (by omega)]
                        clear Hc3
                        try clear h7
                        try clear h8
                        go_wp2_with (go_at_call 114; (first | (with_reducible refine (HO1.out _).mono ?_) | (with_reducible refine (HO2.out _).mono ?_)); rintro e w2 ⟨rfl, rfl⟩)
                        go_ret
                        exact ⟨by rw [Hr.out]; rfl, hb⟩
                    · have e9 : decide ((13 : Int) ≤ k) = false := decide_eq_false h9
                      have Hr : Hid (cg = 0) := by show _ = _; rw [Hc3.out, if_neg (by omega), if_neg (by omega)]
                      clear Hc3
                      try clear h7
                      try clear h8
                      go_wp2_with (go_at_call 114; (first | (with_reducible refine (HO1.out _).mono ?_) | (with_reducible refine (HO2.out _).mono ?_)); rintro e w2 ⟨rfl, rfl⟩)
                      go_ret
                      exact ⟨by rw [Hr.out]; rfl, hb⟩
                  · have e8 : (bit != 0) = true := by simp [h8]
                    by_cases h9 : 13 ≤ k
                    · have e9 : decide ((13 : Int) ≤ k) = true := decide_eq_true h9
                      by_cases h7 : ifn = 0
                      · have e7 : (ifn != 0) = false := by simp [h7]
                        have Hr : Hid (cg = 7) := by show _ = _; rw [Hc3.out, if_neg (by omega), if_pos (by omega)]
                        clear Hc3
                        try clear h7
                        try clear h8
                        go_wp2_with (go_at_call 114; (first | (with_reducible refine (HO1.out _).mono ?_) | (with_reducible refine (HO2.out _).mono ?_)); rintro e w2 ⟨rfl, rfl⟩)
                        go_ret
                        exact ⟨by rw [Hr.out]; rfl, hb⟩
                      · have e7 : (ifn != 0) = true := by simp [h7]
                        have Hr : Hid (cg = 7) := by show _ = _; rw [Hc3.out, if_neg (by omega), if_pos (by omega)]
                        clear Hc3
                        try clear h7
                        try clear h8
                        go_wp2_with (go_at_call 114; (first | (with_reducible refine (HO1.out _).mono ?_) | (with_reducible refine (HO2.out _).mono ?_)); rintro e w2 ⟨rfl, rfl⟩)
                        go_ret
                        exact ⟨by rw [Hr.out]; rfl, hb⟩
                    · have e9 : decide ((13 : Int) ≤ k) = false := decide_eq_false h9
                      have Hr : Hid (cg = 7) := by show _ = _; rw [Hc3.out, if_neg (by omega), if_pos (by omega)]
                      clear Hc3
                      try clear h7
                      try clear h8
                      go_wp2_with (go_at_call 114; (first | (with_reducible refine (HO1.out _).mono ?_) | (with_reducible refine (HO2.out _).mono ?_)); rintro e w2 ⟨rfl, rfl⟩)
                      go_ret
                      exact ⟨by rw [Hr.out]; rfl, hb⟩
            | succ gk =>
              have hlt : j < zs.length := by omega
              have hc4 : zs ≠ [] → ∃ g' o, A = some ⟨g', o, none⟩ ∧ g' < B ∧ ∀ j, j < zs.length → World.cell? wr ⟨g', o + j, none⟩ = some (.int .i64 (zs.getD j 0)) := fun hz => by
                obtain ⟨g', o, ha, hg, hcell⟩ := Hc0.out hz
                exact ⟨g', o, ha, hg, fun j hj => (hb.cell (p := ⟨g', o + j, none⟩) (by show g' < _; omega)).trans (hcell j hj)⟩
              obtain ⟨y, Hy, hyj⟩ : ∃ y, Hid (zs.drop j = y :: zs.drop (j + 1) ∧ zs.take (j + 1) = zs.take j ++ [y]) ∧ zs.getD j 0 = y :=
                ⟨zs[j], ⟨by rw [List.drop_eq_getElem_cons hlt], by rw [List.take_succ_eq_append_getElem hlt]⟩, by rw [List.getD_eq_getElem?_getD, List.getElem?_eq_getElem hlt]; rfl⟩
              have HK := Lib.hid (fun n => refHas_calls zs A j c B y (wr.drewN n) (by omega) hl hc4)
              obtain ⟨g', o, rfl, _, hcell⟩ := hc4 (by intro h0; subst h0; simp at hlt)
              have hxk : wr.cell? ⟨g', o + j, none⟩ = some (.int .i64 y) := by rw [hcell j hlt, hyj]
              have hnc : j ≤ c := by omega
              have hlk : (j : Int) < (zs.length : Int) := by omega
              have hl0 : (0 : Int) ≤ (j : Int) := by omega
              clear hcell hc4 hyj
              cases hq : (zs.take j).contains y
              · have Hr : Hid (dupI zs = dupF (zs.take (j + 1)) (zs.drop (j + 1))) := by show _ = _; rw [Hj.out, Hy.out.1, dupF, hq, Hy.out.2]; rfl
                rw [hq] at HK
                clear hq Hc2
                go_wp2_with fail
                go_quiet ((go_at_call 154; exact Calls.quiet_of_same ((HK.out _).mono fun _ _ h => ⟨h.1, h.2.symm⟩)))
                have hx := hx.drewN nq
                have hb := belowN hb nq
                clear HK x0 x1 x2 x3 xf hxk
                generalize wr.drewN nq = wq at *
                go_wp2_with fail
                go_roundg gk
                case measure => omega
                case rel => exact ⟨j + 1, by omega, by go_num, hx, hb, Hr⟩
              · have Hr : Hid (cg = 5) := by show _ = _; rw [Hc2.out, if_pos (by rw [Hj.out, Hy.out.1, dupF, hq]; rfl)]
                rw [hq] at HK
                clear hq Hc2
                go_wp2_with fail
                go_quiet ((go_at_call 154; exact Calls.quiet_of_same ((HK.out _).mono fun _ _ h => ⟨h.1, h.2.symm⟩)))
                go_wp2_with fail
                go_ret
                exact ⟨by rw [Hr.out]; rfl, belowN hb nq⟩
        | succ gk =>
          have hlt : j < zs.length := by omega
          obtain ⟨g', o, rfl, _, hcell⟩ := hc3 (by intro h0; subst h0; simp at hlt)
          obtain ⟨y, Hy, hxk⟩ : ∃ y, Hid (zs.drop j = y :: zs.drop (j + 1)) ∧ World.cell? wb ⟨g', o + j, none⟩ = some (.int .i64 y) :=
            ⟨zs[j], by show zs.drop j = _; rw [List.drop_eq_getElem_cons hlt], by rw [hcell j hlt, List.getD_eq_getElem?_getD, List.getElem?_eq_getElem hlt]; rfl⟩
          clear hcell hc3
          have hlk : (j : Int) < (zs.length : Int) := by omega
          have hl0 : (0 : Int) ≤ (j : Int) := by omega
          go_wp2_with fail
          refine (HOw.out y _).mono ?_
          rintro e w2 ⟨rfl, rfl⟩
          clear hxk
          cases hq : wireB W y
          · have Hr : Hid (cg = 1) := by show _ = _; rw [Hc1.out, if_pos]; rw [Hj.out, Hy.out, List.all_cons, hq]; rfl
            clear hq
            go_wp2_with fail
            go_ret
            exact ⟨by rw [Hr.out]; rfl, hb⟩
          · have Hr : Hid (zs.all (wireB W) = (zs.drop (j + 1)).all (wireB W)) := by show _ = _; rw [Hj.out, Hy.out, List.all_cons, hq]; rfl
            clear hq
            go_wp2_with fail
            go_roundg gk
            case measure => omega
            case rel => exact ⟨j + 1, by omega, by go_num, rfl, Hr⟩
    · have Hr : Hid (cg = 2) := by show _ = _; rw [Hc.out, if_neg h0, if_pos h1]
      have h1b : ((zs.length : Int) != ar) = true := by simpa using h1
      clear h0 h1
      go_wp2_with fail
      go_ret
      exact ⟨by rw [Hr.out]; rfl, hb⟩
set_option maxRecDepth 100000 in
set_option maxHeartbeats 8000000 in
theorem refCheck_calls (W Bt : Int) (gv : Value) (gs : List Gt) (B : Nat) (w : World) (hB : B ≤ w.heap.size) (hv : GatesAt w B gv gs) (hw : ∀ g ∈ gs, g.wires.length ≤ 1000000) :
    Calls Tryz.prog 71 #[.agg #[.int .i64 W, .int .i64 Bt, gv]] w fun e w' => e = .returned (.int .i64 (chkC ⟨W, Bt, gs⟩)) ∧ Below w.heap.size w w' := by
  obtain ⟨A, c, rfl, hc1, hc2, hc3⟩ := hv.form
  have hx := Blk.new w 25 #[.int .i64 W, .int .i64 Bt, .slice A gs.length c]
  have hb := below1 w (.cells #[.int .i64 W, .int .i64 Bt, .slice A gs.length c] 25)
  have Hv := Lib.hid hv
  have HB := Lib.hid hB
  have Hc : Hid (chkC ⟨W, Bt, gs⟩ = if W < 1 ∨ 12 < W ∨ Bt < 0 ∨ 8 < Bt then 3 else if 120 < gs.length then 2 else chkGs W Bt gs) := rfl
  generalize chkC ⟨W, Bt, gs⟩ = cg at *
  have HO1 := Lib.hid (fun W' => refOff_calls W 1 12 W')
  have HO2 := Lib.hid (fun W' => refOff_calls Bt 0 8 W')
  clear hc3 hv
  unfold maxLen at hc2
  go_enter Tryz.func71, Tryz.ntmps71
  go_upto_region 1 with fail
  generalize w.alloc (.cells #[.int .i64 W, .int .i64 Bt, .slice A gs.length c] 25) = wa at *
  have x0 := hx.cell 0
  have x1 := hx.cell 1
  have x2 := hx.cell 2
  have xf := hx.frozen
  simp at x0 x1 x2
  by_cases h1 : W < 1 ∨ 12 < W
  · have e1 : (decide (W < 1) || decide (12 < W)) = true := by simpa using h1
    rw [e1] at HO1
    have Hr : Hid (cg = 3) := by show _ = _; rw [Hc.out, if_pos (by omega)]
    go_wp2_with (go_at_call 114; (with_reducible refine (HO1.out _).mono ?_); rintro e w2 ⟨rfl, rfl⟩)
    go_ret
    exact ⟨by rw [Hr.out]; rfl, hb⟩
  · have e1 : (decide (W < 1) || decide (12 < W)) = false := by simp; omega
    rw [e1] at HO1
    by_cases h2 : Bt < 0 ∨ 8 < Bt
    · have e2 : (decide (Bt < 0) || decide (8 < Bt)) = true := by simpa using h2
      rw [e2] at HO2
      have Hr : Hid (cg = 3) := by show _ = _; rw [Hc.out, if_pos (by omega)]
      go_wp2_with (go_at_call 114; (first | (with_reducible refine (HO1.out _).mono ?_) | (with_reducible refine (HO2.out _).mono ?_)); rintro e w2 ⟨rfl, rfl⟩)
      go_ret
      exact ⟨by rw [Hr.out]; rfl, hb⟩
    · have e2 : (decide (Bt < 0) || decide (8 < Bt)) = false := by simp; omega
      rw [e2] at HO2
      by_cases h3 : 120 < gs.length
      · have Hr : Hid (cg = 2) := by show _ = _; rw [Hc.out, if_neg (by omega), if_pos h3]
        have d3 : decide ((120 : Int) < (gs.length : Int)) = true := decide_eq_true (by omega)
        go_wp2_with (go_at_call 114; (first | (with_reducible refine (HO1.out _).mono ?_) | (with_reducible refine (HO2.out _).mono ?_)); rintro e w2 ⟨rfl, rfl⟩)
        go_ret
        exact ⟨by rw [Hr.out]; rfl, hb⟩
      · have Hr : Hid (cg = chkGs W Bt gs) := by show _ = _; rw [Hc.out, if_neg (by omega), if_neg h3]
        have d3 : decide ((120 : Int) < (gs.length : Int)) = false := decide_eq_false (by omega)
        have hW : 1 ≤ W ∧ W ≤ 12 := by omega
        have hBt : 0 ≤ Bt ∧ Bt ≤ 8 := by omega
        clear h1 h2 Hc
        go_wp2_with (go_at_call 114; (first | (with_reducible refine (HO1.out _).mono ?_) | (with_reducible refine (HO2.out _).mono ?_)); rintro e w2 ⟨rfl, rfl⟩)
        clear x0 x1 x2 xf HO1 HO2
        go_loopg [3] gs.length (fun gk s3 wr => ∃ n : Nat, n + gk = gs.length ∧ s3 = .int .i64 n ∧ Hid (cg = chkGs W Bt (gs.drop n)) ∧ Blk wr w.heap.size 25 #[.int .i64 W, .int .i64 Bt, .slice A gs.length c] ∧ Below w.heap.size w wr)
        case atStart => exact ⟨0, by omega, rfl, Hr, hx, hb⟩
        case round =>
          clear hb hx Hr
          obtain ⟨n, hn, rfl, Hd, hx, hb⟩ := hrel
          have x0 := hx.cell 0
          have x1 := hx.cell 1
          have x2 := hx.cell 2
          have xf := hx.frozen
          simp at x0 x1 x2
          cases gk with
          | zero =>
            obtain rfl : n = gs.length := by omega
            have Hr2 : Hid (cg = 0) := by show _ = _; rw [Hd.out, List.drop_length]; rfl
            go_wp2_with fail
            go_ret
            exact ⟨by rw [Hr2.out]; rfl, hb⟩
          | succ gk =>
            have hlt : n < gs.length := by omega
            have hv := Hv.out.below (hb.mono HB.out)
            obtain ⟨A', c', e1, _, _, h3⟩ := hv.form
            injection e1 with e1 _ e3
            subst e1 e3
            obtain ⟨b, o, rfl, hbB, hcell⟩ := h3 (by intro h0; subst h0; simp at hlt)
            obtain ⟨g, Hg, hgm⟩ : ∃ g, Hid (gs.drop n = g :: gs.drop (n + 1)) ∧ gs[n]? = some g := ⟨gs[n], by show gs.drop n = _; rw [List.drop_eq_getElem_cons hlt], List.getElem?_eq_getElem hlt⟩
            obtain ⟨wv, hwv, c0, c1, c2, c3⟩ := hcell n g hgm
            have hgl := hw g (List.mem_of_getElem? hgm)
            obtain ⟨A2, d2, e2, _⟩ := hwv.form
            subst e2
            have hbz := hb.size
            have HBs := HB.out
            have HG := Lib.hid (refCheckGate_calls W Bt hW hBt (.slice A2 g.wires.length d2) g B wr.drew (by show B ≤ wr.heap.size; omega) (hwv.keep fun _ _ => rfl) hgl)
            obtain ⟨k, hk⟩ : ∃ k, chkG W Bt g = k := ⟨_, rfl⟩
            rw [hk] at HG
            have Hk := Lib.hid hk
            have hbd : Below w.heap.size w wr.drew := hb.drew
            have hxd : Blk wr.drew w.heap.size 25 #[.int .i64 W, .int .i64 Bt, .slice (some ⟨b, o, none⟩) gs.length c] := hx.drew
            have hlk : (n : Int) < (gs.length : Int) := by omega
            have hl0 : (0 : Int) ≤ (n : Int) := by omega
            clear hk hcell h3 hwv hgm hgl hv hx hb HBs
            go_wp2_with fail
            go_region_law (go_simp; go_at_call 115; (with_reducible refine HG.out.mono ?_); rintro e w2 ⟨rfl, hb3⟩)
            all_goals
              have hb4 := bt hb3 hbd hbd.size
              have hx4 := hxd.below hb3 hxd.lt
              clear HG x0 x1 x2 xf c0 c1 c2 c3 hbd hxd hb3
              by_cases hk0 : k = 0
              · have Hr2 : Hid (cg = chkGs W Bt (gs.drop (n + 1))) := by show _ = _; rw [Hd.out, Hg.out, chkGs_cons, if_pos (Hk.out.trans hk0)]
                subst hk0
                go_wp2_with fail
                go_roundg gk
                case measure => omega
                case rel => exact ⟨n + 1, by omega, by go_num, Hr2, hx4, hb4⟩
              · have Hr2 : Hid (cg = k) := by show _ = _; rw [Hd.out, Hg.out, chkGs_cons, if_neg (by rw [Hk.out]; exact hk0), Hk.out]
                have hk0b : (k != 0) = true := by simpa using hk0
                clear hk0
                go_wp2_with fail
                go_ret
                exact ⟨by rw [Hr2.out]; rfl, hb4⟩
end Go.Proofs.YtonnegkpjmhomaaGreatDoor
end
