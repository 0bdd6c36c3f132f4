import Derived.Test.YtonnegkpjmhomaaGreatDoorDSmall11
import Derived.Test.YtonnegkpjmhomaaGreatDoorDSmall17
import Derived.Test.YtonnegkpjmhomaaGreatDoorDSmall18
import Derived.Test.YtonnegkpjmhomaaGreatDoorDSmall20
import Derived.Test.YtonnegkpjmhomaaGreatDoorDSmall21
set_option linter.all false
section
set_option linter.all false
namespace Go.Proofs.YtonnegkpjmhomaaGreatDoor
open Go.RowKit
def dgU (d : Nat) : UInt8 := UInt8.ofNat (48 + d)
theorem digit10 : ∀ d : Fin 10, (⟨#[48, 49, 50, 51, 52, 53, 54, 55, 56, 57]⟩ : ByteArray).extract d.val (d.val + 1) = bs [dgU d.val] := by decide
theorem itoa_step (m : Nat) : Lib.decDigits m = (if 0 < m / 10 then Lib.decDigits (m / 10) else []) ++ [dgU (m % 10)] := by
  by_cases h : m < 10
  · rw [Lib.decDigits_one h, if_neg (by omega), Nat.mod_eq_of_lt h]; rfl
  · rw [if_pos (by omega)]
    conv => lhs; rw [Lib.decDigits]
    rw [dif_neg h]; rfl
theorem tmod10 (m : Nat) : Int.tmod (m : Int) 10 = ((m % 10 : Nat) : Int) := by rw [Int.tmod_eq_emod_of_nonneg (by omega)]; rfl
theorem tdiv10 (m : Nat) : Int.tdiv (m : Int) 10 = ((m / 10 : Nat) : Int) := by rw [Int.tdiv_eq_ediv_of_nonneg (by omega)]; rfl
set_option maxRecDepth 100000 in
set_option maxHeartbeats 4000000 in
theorem refDecimal_calls (n : Nat) (hn : n ≤ 1000000000) (w : World) : Calls Tryz.prog 148 #[.int .i64 n] w fun e w' => e = .returned (.string (bs (itoa n))) ∧ w = w' := by
  obtain ⟨r, Hr⟩ : ∃ x, Hid (itoa (n : Int) = x) := ⟨_, rfl⟩
  rw [Hr.out]
  have Hr : Hid ((if 0 < n / 10 then Lib.decDigits (n / 10) else []) ++ [dgU (n % 10)] = r) := by
    show _ = _
    rw [← itoa_step, ← Hr.out]
    show _ = Lib.itoa (n : Int)
    rw [Lib.itoa, if_neg (by omega), Int.toNat_natCast]
  have r1 := tmod10 n
  have q1 := tdiv10 n
  have hd := digit10 ⟨n % 10, Nat.mod_lt _ (by decide)⟩
  dsimp only at hd
  have hd9 : n % 10 < 10 := Nat.mod_lt _ (by decide)
  have hm9 : n / 10 ≤ n := Nat.div_le_self _ _
  have hm8 : n / 10 + 1 ≤ n + 1 := by omega
  generalize n % 10 = d at *
  generalize n / 10 = m at *
  have d0 : (0 : Int) ≤ (d : Int) := by omega
  have d1 : (d : Int) ≤ (d : Int) + 1 := by omega
  have d2 : (d : Int) + 1 ≤ 10 := by omega
  go_enter Tryz.func148, Tryz.ntmps148
  go_wp2_with fail
  clear r1 q1
  go_loopg [0, 3] n (fun gk s0 s3 wr => ∃ (m : Nat) (t : List UInt8), s0 = .int .i64 m ∧ s3 = .string (bs t) ∧ m ≤ gk ∧ m ≤ n ∧ t.length + m ≤ n + 1 ∧ Hid ((if 0 < m then Lib.decDigits m else []) ++ t = r) ∧ w = wr)
  case atStart => exact ⟨m, _, rfl, rfl, hm9, hm9, by simp; omega, Hr, rfl⟩
  case round =>
    clear Hr hd hd9 hm9 hm8 d0 d1 d2
    obtain ⟨m, t, rfl, rfl, hmg, hmn, htl, Ht, rfl⟩ := hrel
    by_cases hm : m = 0
    · subst hm
      have Hv : Hid (r = t) := by show _ = _; rw [← Ht.out]; rfl
      go_wp2_with fail
      go_ret
      exact ⟨by rw [Hv.out] <;> rfl, rfl⟩
    · obtain ⟨g, rfl⟩ : ∃ g, gk = g + 1 := ⟨gk - 1, by omega⟩
      have hmp : 0 < m := Nat.pos_of_ne_zero hm
      have hp : (0 : Int) < (m : Int) := by omega
      have hml : (m : Int) ≤ 1000000000 := by omega
      have hd := digit10 ⟨m % 10, Nat.mod_lt _ (by decide)⟩
      dsimp only at hd
      have hd9 : m % 10 < 10 := Nat.mod_lt _ (by decide)
      have hq1 : m / 10 < m := Nat.div_lt_self (by omega) (by decide)
      have Hn : Hid ((if 0 < m / 10 then Lib.decDigits (m / 10) else []) ++ (dgU (m % 10) :: t) = r) := by
        show _ = _
        rw [← Ht.out, if_pos hmp, itoa_step m]; simp
      have r1 := tmod10 m
      have q1 := tdiv10 m
      generalize m % 10 = d at *
      generalize m / 10 = m2 at *
      have d0 : (0 : Int) ≤ (d : Int) := by omega
      have d1 : (d : Int) ≤ (d : Int) + 1 := by omega
      have d2 : (d : Int) + 1 ≤ 10 := by omega
      have hcat : bs [dgU d] ++ bs t = bs (dgU d :: t) := bs_append _ _
      have hcs : ¬ 9223372036854775807 < (bs [dgU d]).size + (bs t).size := by rw [bs_size, bs_size]; simp only [List.length_singleton]; omega
      go_wp2_with fail
      clear r1 q1
      go_roundg g
      case measure => omega
      case rel => exact ⟨m2, _, rfl, rfl, by omega, by omega, by simp; omega, Hn, rfl⟩
theorem hidEx {α : Type} (a : α) : ∃ x, Hid (a = x) := ⟨a, rfl⟩
theorem itoa_short (n : Nat) (h : n ≤ 1000000000) : (itoa n).length ≤ 21 := itoa_len n ⟨by omega, by omega⟩
def headP2 (W Bt : Int) : List UInt8 := [119, 105, 114, 101, 115, 32] ++ itoa W ++ (if 0 < Bt then [32, 98, 105, 116, 115, 32] ++ itoa Bt else []) ++ [59, 10]
set_option maxRecDepth 100000 in
set_option maxHeartbeats 4000000 in
theorem refHead_calls (a b : Nat) (ha : a ≤ 1000000000) (hb : b ≤ 1000000000) (w : World) : Calls Tryz.prog 104 #[.int .i64 a, .int .i64 b] w fun e w' => e = .returned (.string (bs (headP2 a b))) ∧ w = w' := by
  have la := itoa_short a ha
  have lb := itoa_short b hb
  have DA := Lib.hid (fun W => refDecimal_calls a ha W)
  have DB := Lib.hid (fun W => refDecimal_calls b hb W)
  by_cases h : 0 < b
  · have Hr : Hid (headP2 a b = [119, 105, 114, 101, 115, 32] ++ itoa a ++ [32, 98, 105, 116, 115, 32] ++ itoa b ++ [59, 10]) := by
      show _ = _
      rw [headP2, if_pos (by omega)]; simp only [List.append_assoc]
    rw [Hr.out]
    generalize itoa (a : Int) = da at *
    generalize itoa (b : Int) = db at *
    obtain ⟨x1, H1⟩ : ∃ x, Hid ([119, 105, 114, 101, 115, 32] ++ da = x) := hidEx _
    obtain ⟨x2, H2⟩ : ∃ x, Hid (x1 ++ [32, 98, 105, 116, 115, 32] = x) := hidEx _
    obtain ⟨x3, H3⟩ : ∃ x, Hid (x2 ++ db = x) := hidEx _
    obtain ⟨x4, H4⟩ : ∃ x, Hid (x3 ++ [59, 10] = x) := hidEx _
    rw [H1.out, H2.out, H3.out, H4.out]
    have e1 : (⟨#[119, 105, 114, 101, 115, 32]⟩ : ByteArray) ++ bs da = bs x1 := by rw [← H1.out]; exact bs_append _ _
    have e2 : bs x1 ++ (⟨#[32, 98, 105, 116, 115, 32]⟩ : ByteArray) = bs x2 := by rw [← H2.out]; exact bs_append _ _
    have e3 : bs x2 ++ bs db = bs x3 := by rw [← H3.out]; exact bs_append _ _
    have e4 : bs x3 ++ (⟨#[59, 10]⟩ : ByteArray) = bs x4 := by rw [← H4.out]; exact bs_append _ _
    have l1 : x1.length ≤ 30 := by rw [← H1.out]; simp; omega
    have l2 : x2.length ≤ 40 := by rw [← H2.out]; simp; omega
    have l3 : x3.length ≤ 70 := by rw [← H3.out]; simp; omega
    have c1 : ¬ 9223372036854775807 < 6 + (bs da).size := by rw [bs_size]; omega
    have c2 : ¬ 9223372036854775807 < (bs x1).size + 6 := by rw [bs_size]; omega
    have c3 : ¬ 9223372036854775807 < (bs x2).size + (bs db).size := by rw [bs_size, bs_size]; omega
    have c4 : ¬ 9223372036854775807 < (bs x3).size + 2 := by rw [bs_size]; omega
    have hp : (0 : Int) < (b : Int) := by omega
    clear Hr H1 H2 H3 H4 la lb l1 l2 l3
    go_enter Tryz.func104, Tryz.ntmps104
    go_wp2_with fail
    refine (DA.out _).mono ?_
    rintro e w1 ⟨rfl, rfl⟩
    go_wp2_with fail
    refine (DB.out _).mono ?_
    rintro e w1 ⟨rfl, rfl⟩
    go_wp2_with fail
    go_ret
    exact ⟨rfl, rfl⟩
  · have Hr : Hid (headP2 a b = [119, 105, 114, 101, 115, 32] ++ itoa a ++ [59, 10]) := by
      show _ = _
      rw [headP2, if_neg (by omega)]; simp only [List.append_assoc, List.nil_append]
    rw [Hr.out]
    generalize itoa (a : Int) = da at *
    obtain ⟨x1, H1⟩ : ∃ x, Hid ([119, 105, 114, 101, 115, 32] ++ da = x) := hidEx _
    obtain ⟨x4, H4⟩ : ∃ x, Hid (x1 ++ [59, 10] = x) := hidEx _
    rw [H1.out, H4.out]
    have e1 : (⟨#[119, 105, 114, 101, 115, 32]⟩ : ByteArray) ++ bs da = bs x1 := by rw [← H1.out]; exact bs_append _ _
    have e4 : bs x1 ++ (⟨#[59, 10]⟩ : ByteArray) = bs x4 := by rw [← H4.out]; exact bs_append _ _
    have l1 : x1.length ≤ 30 := by rw [← H1.out]; simp; omega
    have c1 : ¬ 9223372036854775807 < 6 + (bs da).size := by rw [bs_size]; omega
    have c4 : ¬ 9223372036854775807 < (bs x1).size + 2 := by rw [bs_size]; omega
    have hp : ¬ (0 : Int) < (b : Int) := by omega
    clear Hr H1 H4 la lb l1
    go_enter Tryz.func104, Tryz.ntmps104
    go_wp2_with fail
    refine (DA.out _).mono ?_
    rintro e w1 ⟨rfl, rfl⟩
    go_wp2_with fail
    go_ret
    exact ⟨rfl, rfl⟩
def ifPart (g : Gt) : List UInt8 := if 0 < g.ifn then [105, 102, 32] ++ itoa (g.ifn - 1) ++ [58, 32] else []
def bitPart (g : Gt) : List UInt8 := if g.kind = 13 then 32 :: itoa g.bit else []
theorem shownP_parts (g : Gt) : shownP g = ((ifPart g ++ wordK g.kind) ++ g.wires.flatMap (fun w => 32 :: itoa w)) ++ bitPart g ++ [59] := by
  unfold shownP ifPart bitPart; simp only [List.append_assoc]
set_option maxRecDepth 100000 in
set_option maxHeartbeats 8000000 in
theorem refLine_calls (g : Gt) (hs : Shows g) (hk : 1 ≤ g.kind ∧ g.kind ≤ 14) (wv : Value) (B : Nat) (w : World) (hB : B ≤ w.heap.size) (hv : IntsAt w B wv g.wires) :
    Calls Tryz.prog 105 #[.agg #[.int .i64 g.kind, wv, .int .i64 g.bit, .int .i64 g.ifn]] w fun e w' => e = .returned (.string (bs (shownP g))) ∧ Below w.heap.size w w' := by
  rw [shownP_parts]
  obtain ⟨A, c, rfl, hc1, hc2, hc3⟩ := hv.form
  have hx := Blk.new w 61 #[.int .i64 g.kind, .slice A g.wires.length c, .int .i64 g.bit, .int .i64 g.ifn]
  have hb := below1 w (.cells #[.int .i64 g.kind, .slice A g.wires.length c, .int .i64 g.bit, .int .i64 g.ifn] 61)
  have hc3' : g.wires ≠ [] → ∃ b o, A = some ⟨b, o, none⟩ ∧ b < B ∧ ∀ j, j < g.wires.length → (w.alloc (.cells #[.int .i64 g.kind, .slice A g.wires.length c, .int .i64 g.bit, .int .i64 g.ifn] 61)).cell? ⟨b, o + j, none⟩ = some (.int .i64 (g.wires.getD j 0)) := fun hz => by
    obtain ⟨b, o, ha, hg, hcell⟩ := hc3 hz
    exact ⟨b, o, ha, hg, fun j hj => (hb.cell (p := ⟨b, o + j, none⟩) (by show b < _; omega)).trans (hcell j hj)⟩
  clear hc3
  have HK := Lib.hid (fun W => refWord_calls g.kind hk W)
  have hwl := wordK_len g.kind
  generalize wordK g.kind = wk at *
  obtain ⟨p0, HP0⟩ : ∃ x, Hid (ifPart g = x) := hidEx _
  have hp0 : p0.length ≤ 30 := by
    rw [← HP0.out]; unfold ifPart
    split
    · have := itoa_len (g.ifn - 1) ⟨by omega, by have := hs.ifn; omega⟩
      simp; omega
    · simp
  obtain ⟨p1, HP1⟩ : ∃ x, Hid (p0 ++ wk = x) := hidEx _
  have hp1 : p1.length ≤ 40 := by rw [← HP1.out, List.length_append]; omega
  have e1 : bs p0 ++ bs wk = bs p1 := by rw [← HP1.out]; exact bs_append _ _
  have c1 : ¬ 9223372036854775807 < (bs p0).size + (bs wk).size := by rw [bs_size, bs_size]; omega
  rw [HP0.out, HP1.out]
  obtain ⟨fl, HF⟩ : ∃ x, Hid (g.wires.flatMap (fun w => 32 :: itoa w) = x) := hidEx _
  obtain ⟨bp, HBP⟩ : ∃ x, Hid (bitPart g = x) := hidEx _
  obtain ⟨q0, Q0⟩ : ∃ x, Hid (p1 ++ fl = x) := hidEx _
  obtain ⟨q2, Q2⟩ : ∃ x, Hid (q0 ++ bp = x) := hidEx _
  obtain ⟨q3, Q3⟩ : ∃ x, Hid (q2 ++ [59] = x) := hidEx _
  rw [HF.out, HBP.out, Q0.out, Q2.out, Q3.out]
  go_enter Tryz.func105, Tryz.ntmps105
  go_upto_region 2 with fail
  generalize w.alloc (.cells #[.int .i64 g.kind, .slice A g.wires.length c, .int .i64 g.bit, .int .i64 g.ifn] 61) = wa at *
  obtain ⟨x0, x1, x2, x3, xf⟩ := hx.cells4
  go_upto_if 7 with fail
  go_cut [3] (fun s3 wx => s3 = .string (bs p0) ∧ wa = wx)
  case first =>
    by_cases hi : 0 < g.ifn
    · obtain ⟨m, hm⟩ : ∃ m : Nat, g.ifn - 1 = m := ⟨(g.ifn - 1).toNat, by omega⟩
      have hm9 : m ≤ 1000 := by have := hs.ifn; omega
      have D := Lib.hid (fun W => refDecimal_calls m (by omega) W)
      have Hp : Hid (p0 = [105, 102, 32] ++ itoa m ++ [58, 32]) := by show _ = _; rw [← HP0.out, ifPart, if_pos hi, hm]
      have lm := itoa_short m (by omega)
      generalize itoa (m : Int) = dm at *
      obtain ⟨y1, Y1⟩ : ∃ x, Hid ([105, 102, 32] ++ dm = x) := hidEx _
      have f1 : (⟨#[105, 102, 32]⟩ : ByteArray) ++ bs dm = bs y1 := by rw [← Y1.out]; exact bs_append _ _
      have f2 : bs y1 ++ (⟨#[58, 32]⟩ : ByteArray) = bs p0 := by rw [Hp.out, Y1.out]; exact bs_append _ _
      have ly : y1.length ≤ 30 := by rw [← Y1.out]; simp; omega
      have g1 : ¬ 9223372036854775807 < 3 + (bs dm).size := by rw [bs_size]; omega
      have g2 : ¬ 9223372036854775807 < (bs y1).size + 2 := by rw [bs_size]; omega
      have hw : IntKind.i64.wrap (g.ifn - 1) = (m : Int) := by rw [hm]; exact IntWalk.i64_in _ (by omega)
      have hi2 : g.ifn = (m : Int) + 1 := by omega
      rw [hi2] at x3
      clear Hp Y1 lm ly hm hw hi2 HP0 HP1
      go_wp2_with fail
      with_reducible refine (D.out _).mono ?_
      rintro e w1 ⟨rfl, rfl⟩
      go_wp2_with fail
      go_meet
      exact ⟨rfl, rfl⟩
    · have Hp : Hid (p0 = []) := by show _ = _; rw [← HP0.out, ifPart, if_neg hi]
      go_wp2_with fail
      go_meet
      rw [Hp.out]
      exact ⟨rfl, rfl⟩
  case rest =>
    obtain ⟨rfl, rfl⟩ := hcut
    clear HP0 HP1
    obtain ⟨x0, x1, x2, x3, xf⟩ := hx.cells4
    have HW := Lib.hid hs.wires
    have HLn := hs.len
    have HF2 : Hid ((g.wires.take 0).flatMap (fun w => 32 :: itoa w) = []) := rfl
    go_wp2_with fail
    refine (HK.out _).mono ?_
    rintro e w1 ⟨rfl, rfl⟩
    go_wp2_with fail
    go_loopg [3, 4] g.wires.length (fun gk s3 s4 wr => ∃ (j : Nat) (t : List UInt8), j + gk = g.wires.length ∧ s4 = .int .i64 j ∧ s3 = .string (bs (p1 ++ t)) ∧ t.length ≤ 22 * j ∧ Hid ((g.wires.take j).flatMap (fun w => 32 :: itoa w) = t) ∧ w1 = wr)
    case atStart => exact ⟨0, [], by omega, rfl, by rw [List.append_nil], by simp, HF2, rfl⟩
    case round =>
      clear HF2
      obtain ⟨j, t, hj, rfl, rfl, htl, Ht, rfl⟩ := hrel
      cases gk with
      | zero =>
        obtain rfl : j = g.wires.length := by omega
        have hft : t = fl := by rw [← Ht.out, List.take_length, HF.out]
        subst hft
        clear HF Ht HK HW
        have lb : t.length ≤ 220 := by omega
        rw [Q0.out]
        have lq : q0.length ≤ 300 := by rw [← Q0.out, List.length_append]; omega
        clear Q0 e1 c1 hwl hp0 hp1
        go_upto_if 37 with fail
        go_cut [3] (fun s3 wx => s3 = .string (bs q2) ∧ bp.length ≤ 30 ∧ w1 = wx)
        case first =>
          by_cases hk3 : g.kind = 13
          · obtain ⟨m, hm⟩ : ∃ m : Nat, g.bit = m := ⟨g.bit.toNat, by have := hs.bit; omega⟩
            have hm9 : m ≤ 1000 := by have := hs.bit; omega
            have D := Lib.hid (fun W => refDecimal_calls m (by omega) W)
            have Hp : Hid (bp = 32 :: itoa m) := by show _ = _; rw [← HBP.out, bitPart, if_pos hk3, hm]
            have lm := itoa_short m (by omega)
            generalize itoa (m : Int) = dm at *
            rw [← hm] at D
            obtain ⟨y1, Y1⟩ : ∃ x, Hid (q0 ++ [32] = x) := hidEx _
            obtain ⟨y2, Y2⟩ : ∃ x, Hid (y1 ++ dm = x) := hidEx _
            have f1 : bs q0 ++ (⟨#[32]⟩ : ByteArray) = bs y1 := by rw [← Y1.out]; exact bs_append _ _
            have f2 : bs y1 ++ bs dm = bs y2 := by rw [← Y2.out]; exact bs_append _ _
            have ly : y1.length ≤ 310 := by rw [← Y1.out]; simp; omega
            have g1 : ¬ 9223372036854775807 < (bs q0).size + 1 := by rw [bs_size]; omega
            have g2 : ¬ 9223372036854775807 < (bs y1).size + (bs dm).size := by rw [bs_size, bs_size]; omega
            have Hy : Hid (q2 = y2) := by show _ = _; rw [← Q2.out, Hp.out, ← Y2.out, ← Y1.out]; simp
            have ek : (g.kind == 13) = true := by simpa using hk3
            clear Y1 Y2 hm hk3 ly
            go_wp2_with fail
            with_reducible refine (D.out _).mono ?_
            rintro e w2 ⟨rfl, rfl⟩
            go_wp2_with fail
            go_meet
            rw [Hy.out]
            exact ⟨rfl, by rw [Hp.out]; simp; omega, rfl⟩
          · have Hp : Hid (bp = []) := by show _ = _; rw [← HBP.out, bitPart, if_neg hk3]
            have ek : (g.kind == 13) = false := by simpa using hk3
            clear hk3
            go_wp2_with fail
            go_meet
            have hq : q2 = q0 := by rw [← Q2.out, Hp.out, List.append_nil]
            rw [hq]
            exact ⟨rfl, by rw [Hp.out]; decide, rfl⟩
        case rest =>
          obtain ⟨rfl, lbp, rfl⟩ := hcut
          have lq2 : q2.length ≤ 400 := by rw [← Q2.out, List.length_append]; omega
          have f1 : bs q2 ++ (⟨#[59]⟩ : ByteArray) = bs q3 := by rw [← Q3.out]; exact bs_append _ _
          have g1 : ¬ 9223372036854775807 < (bs q2).size + 1 := by rw [bs_size]; omega
          clear Q2 Q3 lbp
          go_wp2_with fail
          go_ret
          exact ⟨rfl, hb⟩
      | succ gk =>
        have hlt : j < g.wires.length := by omega
        obtain ⟨b, o, rfl, _, hcell⟩ := hc3' (by intro h0; rw [h0] at hlt; simp at hlt)
        obtain ⟨z, hz, hzk⟩ : ∃ z, g.wires[j]? = some z ∧ w1.cell? ⟨b, o + j, none⟩ = some (.int .i64 z) := ⟨g.wires[j], List.getElem?_eq_getElem hlt, by rw [hcell j hlt, List.getD_eq_getElem?_getD, List.getElem?_eq_getElem hlt]; rfl⟩
        have hzr := HW.out z (List.mem_of_getElem? hz)
        obtain ⟨m, rfl⟩ : ∃ m : Nat, z = m := ⟨z.toNat, by omega⟩
        have hm9 : m ≤ 1000 := by omega
        have D := Lib.hid (fun W => refDecimal_calls m (by omega) W)
        have lm := itoa_short m (by omega)
        have Hn : Hid ((g.wires.take (j + 1)).flatMap (fun w => 32 :: itoa w) = t ++ (32 :: itoa m)) := by
          show _ = _
          rw [List.take_add_one, hz, List.flatMap_append, Ht.out]; simp
        generalize itoa (m : Int) = dm at *
        obtain ⟨y0, Y0⟩ : ∃ x, Hid (p1 ++ t = x) := hidEx _
        obtain ⟨y1, Y1⟩ : ∃ x, Hid (y0 ++ [32] = x) := hidEx _
        obtain ⟨y2, Y2⟩ : ∃ x, Hid (y1 ++ dm = x) := hidEx _
        rw [Y0.out]
        have f1 : bs y0 ++ (⟨#[32]⟩ : ByteArray) = bs y1 := by rw [← Y1.out]; exact bs_append _ _
        have f2 : bs y1 ++ bs dm = bs y2 := by rw [← Y2.out]; exact bs_append _ _
        have ly0 : y0.length ≤ 300 := by rw [← Y0.out, List.length_append]; omega
        have ly : y1.length ≤ 310 := by rw [← Y1.out]; simp; omega
        have g1 : ¬ 9223372036854775807 < (bs y0).size + 1 := by rw [bs_size]; omega
        have g2 : ¬ 9223372036854775807 < (bs y1).size + (bs dm).size := by rw [bs_size, bs_size]; omega
        have Hy : Hid (p1 ++ (t ++ 32 :: dm) = y2) := by show _ = _; rw [← Y2.out, ← Y1.out, ← Y0.out]; simp
        have htl2 : (t ++ 32 :: dm).length ≤ 22 * (j + 1) := by simp; omega
        have Htl2 := Lib.hid htl2
        have hlk : (j : Int) < (g.wires.length : Int) := by omega
        have hl0 : (0 : Int) ≤ (j : Int) := by omega
        clear Y0 Y1 Y2 hcell hz hzr ly ly0 htl2 lm
        go_wp2_with fail
        with_reducible refine (D.out _).mono ?_
        rintro e w2 ⟨rfl, rfl⟩
        go_wp2_with fail
        go_roundg gk
        case measure => omega
        case rel => exact ⟨j + 1, _, by omega, by go_num, by rw [Hy.out], Htl2.out, Hn, rfl⟩
theorem arity_kind {k : Int} (h : arity k ≠ 0) : 1 ≤ k ∧ k ≤ 14 := by
  unfold arity at h
  by_cases h1 : 1 ≤ k ∧ k ≤ 14
  · exact h1
  · exact absurd (by rw [if_neg (by omega), if_neg (by omega), if_neg (by omega)]) h
theorem chkG_kind {W Bt : Int} {g : Gt} (h : chkG W Bt g = 0) : 1 ≤ g.kind ∧ g.kind ≤ 14 := by
  unfold chkG at h
  split at h; · omega
  rename_i h1
  exact arity_kind h1
theorem chkC_kinds {W Bt : Int} {gs : List Gt} (h : chkC ⟨W, Bt, gs⟩ = 0) : ∀ g ∈ gs, 1 ≤ g.kind ∧ g.kind ≤ 14 := by
  unfold chkC at h
  dsimp only at h
  split at h; · omega
  split at h; · omega
  exact fun g hg => chkG_kind (chkGs_all h g hg)
theorem printP_head (c : Ct) : printP c = headP2 c.wires c.bits ++ c.gates.flatMap (fun g => shownP g ++ [10]) := by
  unfold printP headP2; simp only [List.append_assoc]
theorem headP2_len (a b : Nat) (ha : a ≤ 1000000000) (hb : b ≤ 1000000000) : (headP2 a b).length ≤ 100 := by
  have la := itoa_short a ha
  have lb := itoa_short b hb
  unfold headP2
  split <;> simp <;> omega
set_option maxRecDepth 100000 in
set_option maxHeartbeats 8000000 in
theorem refPrint_calls (W Bt : Int) (gv : Value) (gs : List Gt) (B : Nat) (w : World) (hB : B ≤ w.heap.size) (hv : GatesAt w B gv gs) (h0 : chkC ⟨W, Bt, gs⟩ = 0) :
    Calls Tryz.prog 59 #[.agg #[.int .i64 W, .int .i64 Bt, gv]] w fun e w' => e = .returned (.string (bs (printP ⟨W, Bt, gs⟩))) ∧ Below w.heap.size w w' := by
  obtain ⟨z1, z2, z3, z4, z5, z6⟩ := chkC_zero h0
  have z7 := chkC_kinds h0
  obtain ⟨a, rfl⟩ : ∃ a : Nat, W = a := ⟨W.toNat, by omega⟩
  obtain ⟨b, rfl⟩ : ∃ b : Nat, Bt = b := ⟨Bt.toNat, by omega⟩
  obtain ⟨A, c, rfl, hnc, hcm, _⟩ := hv.form
  have Hv := Lib.hid hv
  have HB := Lib.hid hB
  have HS := Lib.hid z6
  have HK := Lib.hid z7
  have HH := Lib.hid (fun W => refHead_calls a b (by omega) (by omega) W)
  rw [printP_head]
  dsimp only
  have lh := headP2_len a b (by omega) (by omega)
  generalize headP2 (a : Int) (b : Int) = H at *
  have hb0 := below1 w (.cells #[.int .i64 a, .int .i64 b, .slice A gs.length c] 25)
  have hx0 := Blk.new w 25 #[.int .i64 a, .int .i64 b, .slice A gs.length c]
  obtain ⟨fl, HF⟩ : ∃ x, Hid (gs.flatMap (fun g => shownP g ++ [10]) = x) := hidEx _
  obtain ⟨R, HR⟩ : ∃ x, Hid (H ++ fl = x) := hidEx _
  rw [HF.out, HR.out]
  have HF0 : Hid ((gs.take 0).flatMap (fun g => shownP g ++ [10]) = []) := rfl
  unfold maxLen at hcm
  clear h0 z1 z2 z3 z4 z6 z7 hv hB
  go_enter Tryz.func59, Tryz.ntmps59
  go_upto_region 1 with fail
  generalize w.alloc (.cells #[.int .i64 a, .int .i64 b, .slice A gs.length c] 25) = wa at *
  have y0 := hx0.cell 0
  have y1 := hx0.cell 1
  have y2 := hx0.cell 2
  have yf := hx0.frozen
  simp at y0 y1 y2
  go_wp2_with fail
  with_reducible refine (HH.out _).mono ?_
  rintro e w1 ⟨rfl, rfl⟩
  go_wp2_with fail
  clear y0 y1 y2 yf
  go_loopg [3, 4] gs.length (fun gk s3 s4 wr => ∃ (n : Nat) (t : List UInt8), n + gk = gs.length ∧ s4 = .int .i64 n ∧ s3 = .string (bs (H ++ t)) ∧ Hid ((gs.take n).flatMap (fun g => shownP g ++ [10]) = t) ∧ t.length ≤ n * 20000001 ∧ Blk wr w.heap.size 25 #[.int .i64 a, .int .i64 b, .slice A gs.length c] ∧ Below w.heap.size w wr)
  case atStart => exact ⟨0, [], by omega, rfl, by rw [List.append_nil], HF0, by simp, hx0, hb0⟩
  case round =>
    clear HF0 hx0 hb0
    obtain ⟨n, t, hn, rfl, rfl, Ht, htl, hx, hb⟩ := hrel
    have y0 := hx.cell 0
    have y1 := hx.cell 1
    have y2 := hx.cell 2
    have yf := hx.frozen
    simp at y0 y1 y2
    cases gk with
    | zero =>
      obtain rfl : n = gs.length := by omega
      have hft : H ++ t = R := by rw [← HR.out, ← HF.out, ← Ht.out, List.take_length]
      rw [hft]
      clear hft
      go_wp2_with fail
      go_ret
      exact ⟨rfl, hb⟩
    | succ gk =>
      have hlt : n < gs.length := by omega
      have k1 := Hv.out.below (hb.mono HB.out)
      obtain ⟨A', c', e1, _, _, h3⟩ := k1.form
      injection e1 with e1 _ e3
      subst e1 e3
      obtain ⟨b', o, rfl, hbB, hcell⟩ := h3 (by intro h0; subst h0; simp at hlt)
      obtain ⟨g, hgm⟩ : ∃ g, gs[n]? = some g := ⟨gs[n], List.getElem?_eq_getElem hlt⟩
      obtain ⟨wv, hwv, x0, x1, x2, x3⟩ := hcell n g hgm
      obtain ⟨D, d, rfl, _⟩ := hwv.form
      have hgs := HS.out g (List.mem_of_getElem? hgm)
      have HL := Lib.hid (refLine_calls g hgs (HK.out g (List.mem_of_getElem? hgm)) (.slice D g.wires.length d) B wr (Nat.le_trans HB.out hb.size) hwv)
      have ls := shownP_len hgs
      have Hn : Hid ((gs.take (n + 1)).flatMap (fun g => shownP g ++ [10]) = t ++ (shownP g ++ [10])) := by
        show _ = _
        rw [List.take_add_one, hgm, List.flatMap_append, Ht.out]; simp
      generalize shownP g = sg at *
      obtain ⟨q0, Q0⟩ : ∃ x, Hid (H ++ t = x) := hidEx _
      obtain ⟨q1, Q1⟩ : ∃ x, Hid (q0 ++ sg = x) := hidEx _
      obtain ⟨q2, Q2⟩ : ∃ x, Hid (q1 ++ [10] = x) := hidEx _
      rw [Q0.out]
      have f1 : bs q0 ++ bs sg = bs q1 := by rw [← Q1.out]; exact bs_append _ _
      have f2 : bs q1 ++ (⟨#[10]⟩ : ByteArray) = bs q2 := by rw [← Q2.out]; exact bs_append _ _
      have m1 : n * 20000001 ≤ 120 * 20000001 := Nat.mul_le_mul_right _ (by omega)
      have l0 : q0.length ≤ 3000000000 := by rw [← Q0.out, List.length_append]; omega
      have l1 : q1.length ≤ 4000000000 := by rw [← Q1.out, List.length_append]; omega
      have g1 : ¬ 9223372036854775807 < (bs q0).size + (bs sg).size := by rw [bs_size, bs_size]; omega
      have g2 : ¬ 9223372036854775807 < (bs q1).size + 1 := by rw [bs_size]; omega
      have Hy : Hid (H ++ (t ++ (sg ++ [10])) = q2) := by show _ = _; rw [← Q2.out, ← Q1.out, ← Q0.out]; simp
      have Htl : Hid ((t ++ (sg ++ [10])).length ≤ (n + 1) * 20000001) := by show _ ≤ _; simp; omega
      have hlk : (n : Int) < (gs.length : Int) := by omega
      have hl0 : (0 : Int) ≤ (n : Int) := by omega
      clear Q0 Q1 Q2 l0 l1 m1 ls hcell h3 k1 hwv hgs hgm
      go_wp2_with fail
      with_reducible refine HL.out.mono ?_
      rintro e w2 ⟨rfl, hb2⟩
      have hx := hx.below hb2 hx.lt
      have hb := bt hb2 hb hb.size
      clear HL hb2 x0 x1 x2 x3 y0 y1 y2 yf
      go_wp2_with fail
      go_roundg gk
      case measure => omega
      case rel => exact ⟨n + 1, _, by omega, by go_num, by rw [Hy.out], Hn, Htl.out, hx, hb⟩
end Go.Proofs.YtonnegkpjmhomaaGreatDoor
end
section
set_option linter.all false
namespace Go.Proofs.YtonnegkpjmhomaaGreatDoor
open Go.RowKit
theorem sRead_ok {l : List UInt8} (h : (sRead l).2.2.2 = 0) : chkC (sRead l).1 = 0 ∧ (sRead l).2.2.1 = 0 := by
  unfold sRead at h ⊢
  dsimp only at h ⊢
  split at h
  · have h : (11 : Int) = 0 := h
    omega
  · rename_i h1
    rw [if_neg h1]
    split at h
    · have h : (4 : Int) = 0 := h
      omega
    · rename_i h2
      rw [if_neg h2]
      split at h
      · rename_i h3; exact absurd h h3
      · rename_i h3
        rw [if_neg h3]
        exact ⟨Classical.not_not.1 h3, rfl⟩
theorem sTidy_ok {l : List UInt8} (h : (sRead l).2.2.2 = 0) : sTidy l = (printP (sRead l).1, 0, 0) := by
  have h2 := (sRead_ok h).1
  unfold sTidy sPrint
  rw [if_pos h, if_pos h2]
theorem sTidy_no {l : List UInt8} (h : (sRead l).2.2.2 ≠ 0) : sTidy l = ([], (sRead l).2.2.1, (sRead l).2.2.2) := by
  unfold sTidy
  rw [if_neg h]
set_option maxRecDepth 100000 in
set_option maxHeartbeats 8000000 in
theorem TextParses_ok (l : List UInt8) (hl : l.length ≤ 140737488351232) (w : World) (ht : Tabs w) :
    Calls Tryz.prog 24 #[.string (bs l)] w fun e w' => e = .returned (.bool true) ∧ Below w.heap.size w w' := by
  have HA := Lib.hid awake_calls
  have HT := Lib.hid ht
  clear ht
  by_cases hlong : (2000 < l.length ∧ l.length ≤ 65536) ∨ 65546 < l.length
  · have HL := Lib.hid (long_yes l hlong hl)
    go_enter Tryz.func24, Tryz.ntmps24
    go_wp2_with fail
    refine (HL.out _).mono ?_
    rintro e w' ⟨rfl, rfl⟩
    go_wp2_with fail
    refine (HA.out _ HT.out).mono ?_
    rintro e w1 ⟨rfl, hb⟩
    go_wp2_with fail
    go_ret
    exact ⟨rfl, hb⟩
  · have HL := Lib.hid (long_no l hlong)
    have hl3 : l.length ≤ 1000000 := by omega
    have HR := Lib.hid (fun W => refParse_calls l hl3 W)
    have HP := Lib.hid (fun W (h : Tabs W) => Parse_calls l hl3 W h)
    have HD := Lib.hid (fun W (h : Tabs W) => Tidy_calls l hl3 W h)
    have H1 := Lib.hid (sRead_ok (l := l))
    have H2 := Lib.hid (sRead_wires (l := l))
    have H3 := Lib.hid (sTidy_ok (l := l))
    have H4 := Lib.hid (sTidy_no (l := l))
    obtain ⟨⟨⟨W, Bt, G⟩, sp, at_, er⟩, HS⟩ : ∃ r, Hid (sRead l = r) := ⟨_, rfl⟩
    rw [HS.out] at HR HP H1 H2 H3 H4
    unfold RpPost at HR
    unfold PsPost at HP
    dsimp only at HR HP H1 H2 H3 H4
    clear HS hlong hl3
    have eW : (W == W) = true := beq_self_eq_true _
    have eat : (at_ == at_) = true := beq_self_eq_true _
    have eer : (er == er) = true := beq_self_eq_true _
    by_cases he : er = 0
    · subst he
      obtain ⟨hchk, rfl⟩ := H1.out rfl
      rw [H3.out rfl] at HD
      dsimp only at HD
      have HPr := Lib.hid (fun gv B W' hB hv => refPrint_calls W Bt gv G B W' hB hv hchk)
      generalize printP ⟨W, Bt, G⟩ = pr at *
      have ep : ((bs pr).toList == (bs pr).toList) = true := beq_self_eq_true _
      clear H3 H4 H1 hchk
      go_enter Tryz.func24, Tryz.ntmps24
      go_wp2_with fail
      refine (HL.out _).mono ?_
      rintro e w' ⟨rfl, rfl⟩
      go_wp2_with fail
      refine (HR.out _).mono ?_
      rintro e w1 ⟨gv, sv, gw, rfl, hg, hG, hsp, hb1⟩
      have k1 := hG.gates
      rw [hg] at k1
      obtain ⟨A2, c2, rfl⟩ := own_form hsp
      obtain ⟨A, c, rfl, _⟩ := k1.form
      clear hg hG hsp
      have hbx := below1 w1 (.cells #[.int .i64 W, .int .i64 Bt, .slice A G.length c] 25)
      have hx := Blk.new w1 25 #[.int .i64 W, .int .i64 Bt, .slice A G.length c]
      have hb2 := bt hbx hb1 hb1.size
      have k2 := k1.below hbx
      dsimp only
      have hz1 : w1.heap.size < (w1.alloc (.cells #[.int .i64 W, .int .i64 Bt, .slice A G.length c] 25)).heap.size := by simp
      clear hb1 k1 hbx
      go_upto_region 5 with fail
      generalize w1.alloc (.cells #[.int .i64 W, .int .i64 Bt, .slice A G.length c] 25) = wa at *
      generalize w1.heap.size = n1 at *
      have x0 := hx.cell 0
      have x1 := hx.cell 1
      have x2 := hx.cell 2
      have xf := hx.frozen
      simp at x0 x1 x2
      go_wp2_with fail
      with_reducible refine (HPr.out _ n1 _ (by omega) k2).mono ?_
      rintro e w2 ⟨rfl, hb3⟩
      have hx := hx.below hb3 hx.lt
      have k3 := k2.below (hb3.mono (by omega))
      have hb4 := bt hb3 hb2 hb2.size
      have hz2 := hb3.size
      clear x0 x1 x2 xf k2 hb2 hb3
      go_wp2_with fail
      with_reducible refine (HP.out _ (HT.out.below hb4)).mono ?_
      rintro e w3 ⟨gv3, gw3, rfl, hg3, hG3, hb5⟩
      have m1 := hG3.gates
      rw [hg3] at m1
      obtain ⟨A3, c3, rfl, _⟩ := m1.form
      have hx := hx.below hb5 hx.lt
      have k4 := k3.below (hb5.mono (by omega))
      have hb6 := bt hb5 hb4 hb4.size
      have hz3 := hb5.size
      have hby := below1 w3 (.cells #[.int .i64 W, .int .i64 Bt, .slice A3 G.length c3] 25)
      have hy := Blk.new w3 25 #[.int .i64 W, .int .i64 Bt, .slice A3 G.length c3]
      have hx := hx.below hby hx.lt
      have k5 := k4.below (hby.mono (by omega))
      have m2 := m1.below hby
      have hb7 := bt hby hb6 hb6.size
      have hz4 : w3.heap.size < (w3.alloc (.cells #[.int .i64 W, .int .i64 Bt, .slice A3 G.length c3] 25)).heap.size := by simp
      clear hg3 hG3 hb4 hb5 hb6 k3 k4 m1 hby
      go_upto_region 8 with fail
      generalize w3.alloc (.cells #[.int .i64 W, .int .i64 Bt, .slice A3 G.length c3] 25) = wb at *
      generalize w3.heap.size = n3 at *
      go_wp2_with fail
      with_reducible refine (HD.out _ (HT.out.below hb7)).mono ?_
      rintro e w4 ⟨rfl, hb8⟩
      have hx := hx.below hb8 hx.lt
      have hy := hy.below hb8 hy.lt
      have k6 := k5.below (hb8.mono (by omega))
      have m3 := m2.below (hb8.mono (by omega))
      have hb9 := bt hb8 hb7 hb7.size
      have hz5 := hb8.size
      have HSm := Lib.hid (Same_same W Bt G _ _ n3 w4 (by omega) m3 (k6.more (by omega)) (fun g hg => Nat.le_trans (H2.out g hg) (by decide)))
      clear hb7 hb8 k5 m2 k6 m3
      have x0 := hx.cell 0
      have x1 := hx.cell 1
      have x2 := hx.cell 2
      have xf := hx.frozen
      have y0 := hy.cell 0
      have y1 := hy.cell 1
      have y2 := hy.cell 2
      have yf := hy.frozen
      simp at x0 x1 x2 y0 y1 y2
      go_wp2_with fail
      with_reducible refine HSm.out.mono ?_
      rintro e w5 ⟨rfl, hb10⟩
      have hb11 := bt hb10 hb9 hb9.size
      go_wp2_with fail
      with_reducible refine (HA.out _ (HT.out.below hb11)).mono ?_
      rintro e w6 ⟨rfl, hb12⟩
      go_wp2_with fail
      go_ret
      exact ⟨rfl, bt hb12 hb11 hb11.size⟩
    · rw [H4.out he] at HD
      dsimp only at HD
      have he0 : (er == 0) = false := by simpa using he
      clear H3 H4 H1 he
      go_enter Tryz.func24, Tryz.ntmps24
      go_wp2_with fail
      refine (HL.out _).mono ?_
      rintro e w' ⟨rfl, rfl⟩
      go_wp2_with fail
      refine (HR.out _).mono ?_
      rintro e w1 ⟨gv, sv, gw, rfl, hg, hG, hsp, hb1⟩
      have k1 := hG.gates
      rw [hg] at k1
      obtain ⟨A2, c2, rfl⟩ := own_form hsp
      obtain ⟨A, c, rfl, _⟩ := k1.form
      clear hg hG hsp
      have hbx := below1 w1 (.cells #[.int .i64 W, .int .i64 Bt, .slice A G.length c] 25)
      have hx := Blk.new w1 25 #[.int .i64 W, .int .i64 Bt, .slice A G.length c]
      have hb2 := bt hbx hb1 hb1.size
      have k2 := k1.below hbx
      dsimp only
      have hz1 : w1.heap.size < (w1.alloc (.cells #[.int .i64 W, .int .i64 Bt, .slice A G.length c] 25)).heap.size := by simp
      clear hb1 k1 hbx
      go_upto_region 5 with fail
      generalize w1.alloc (.cells #[.int .i64 W, .int .i64 Bt, .slice A G.length c] 25) = wa at *
      generalize w1.heap.size = n1 at *
      go_wp2_with fail
      with_reducible refine (HP.out _ (HT.out.below hb2)).mono ?_
      rintro e w3 ⟨gv3, gw3, rfl, hg3, hG3, hb5⟩
      have m1 := hG3.gates
      rw [hg3] at m1
      obtain ⟨A3, c3, rfl, _⟩ := m1.form
      have hx := hx.below hb5 hx.lt
      have k4 := k2.below (hb5.mono (by omega))
      have hb6 := bt hb5 hb2 hb2.size
      have hz3 := hb5.size
      have hby := below1 w3 (.cells #[.int .i64 W, .int .i64 Bt, .slice A3 G.length c3] 25)
      have hy := Blk.new w3 25 #[.int .i64 W, .int .i64 Bt, .slice A3 G.length c3]
      have hx := hx.below hby hx.lt
      have k5 := k4.below (hby.mono (by omega))
      have m2 := m1.below hby
      have hb7 := bt hby hb6 hb6.size
      have hz4 : w3.heap.size < (w3.alloc (.cells #[.int .i64 W, .int .i64 Bt, .slice A3 G.length c3] 25)).heap.size := by simp
      clear hg3 hG3 hb2 hb5 hb6 k2 k4 m1 hby
      go_upto_region 8 with fail
      generalize w3.alloc (.cells #[.int .i64 W, .int .i64 Bt, .slice A3 G.length c3] 25) = wb at *
      generalize w3.heap.size = n3 at *
      go_wp2_with fail
      with_reducible refine (HD.out _ (HT.out.below hb7)).mono ?_
      rintro e w4 ⟨rfl, hb8⟩
      have hx := hx.below hb8 hx.lt
      have hy := hy.below hb8 hy.lt
      have k6 := k5.below (hb8.mono (by omega))
      have m3 := m2.below (hb8.mono (by omega))
      have hb9 := bt hb8 hb7 hb7.size
      have hz5 := hb8.size
      have HSm := Lib.hid (Same_same W Bt G _ _ n3 w4 (by omega) m3 (k6.more (by omega)) (fun g hg => Nat.le_trans (H2.out g hg) (by decide)))
      clear hb7 hb8 k5 m2 k6 m3
      have x0 := hx.cell 0
      have x1 := hx.cell 1
      have x2 := hx.cell 2
      have xf := hx.frozen
      have y0 := hy.cell 0
      have y1 := hy.cell 1
      have y2 := hy.cell 2
      have yf := hy.frozen
      simp at x0 x1 x2 y0 y1 y2
      have es : (bs ([] : List UInt8)).toList = [] := toList_ne []
      go_wp2_with fail
      with_reducible refine HSm.out.mono ?_
      rintro e w5 ⟨rfl, hb10⟩
      have hb11 := bt hb10 hb9 hb9.size
      go_wp2_with fail
      with_reducible refine (HA.out _ (HT.out.below hb11)).mono ?_
      rintro e w6 ⟨rfl, hb12⟩
      go_wp2_with fail
      go_ret
      exact ⟨rfl, bt hb12 hb11 hb11.size⟩
end Go.Proofs.YtonnegkpjmhomaaGreatDoor
end
