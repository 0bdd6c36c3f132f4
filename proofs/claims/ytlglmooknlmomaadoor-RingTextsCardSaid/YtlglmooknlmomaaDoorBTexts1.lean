import Derived.Test.YtlglmooknlmomaaDoorBTexts0
set_option linter.all false
section
namespace Go.Proofs.YtlglmooknlmomaaDoorPR
open Go.RowKit Go.Proofs.YtlglmooknlmomaaDoor.Inj Go.Proofs.YtlglmooknlmomaaDoorW.PrintWords Go.Proofs.YtlglmooknlmomaaDoorW.PrintLast Go.Proofs.YtlglmooknlmomaaDoorW.PrintMore
attribute [local go_sem] max2_int min2_int max_two min_two max_three min_three max_four min_four
set_option linter.unusedVariables false
set_option linter.unusedSimpArgs false
theorem eqA23 (d : Nat) (w : World) (x0 y0 : Int) (x1 y1 : Int) (x2 y2 : Int) (x3 y3 : Int) (x4 y4 : Int) :
    (Op.equalIn (d + 2) 23 (.agg #[.int .i64 x0, .int .i64 x1, .int .i64 x2, .int .i64 x3, .int .i64 x4]) (.agg #[.int .i64 y0, .int .i64 y1, .int .i64 y2, .int .i64 y3, .int .i64 y4])).run Tryd.prog w = .ok (x0 == y0 && (x1 == y1 && (x2 == y2 && (x3 == y3 && (x4 == y4))))) w := by
  refine eqA_of Tryd.underlying23 (by kernel_rfl) ?_
  refine eqf_cons (by rfl) (by go_simp; rfl) (by go_simp; rfl) (by go_simp) ?_
  refine eqf_cons (by rfl) (by go_simp; rfl) (by go_simp; rfl) (by go_simp) ?_
  refine eqf_cons (by rfl) (by go_simp; rfl) (by go_simp; rfl) (by go_simp) ?_
  refine eqf_cons (by rfl) (by go_simp; rfl) (by go_simp; rfl) (by go_simp) ?_
  exact eqf_last (by rfl) (by go_simp; rfl) (by go_simp; rfl) (by go_simp)
end Go.Proofs.YtlglmooknlmomaaDoorPR
end
section
namespace Go.Proofs.YtlglmooknlmomaaDoorPR
open Go.RowKit Go.Proofs.YtlglmooknlmomaaDoor.Inj Go.Proofs.YtlglmooknlmomaaDoorW.PrintWords Go.Proofs.YtlglmooknlmomaaDoorW.PrintLast Go.Proofs.YtlglmooknlmomaaDoorW.PrintMore
attribute [local go_sem] max2_int min2_int max_two min_two max_three min_three max_four min_four
set_option linter.unusedVariables false
set_option linter.unusedSimpArgs false
attribute [local go_sem high] eqA23
def spoondriftref01_digits.f : Nat → Int → Option (ByteArray)
  | 0, _ => none
  | k + 1, a0 => if a0 < 10 then (if 0 ≤ a0 then (if a0 ≤ (wrap64 (a0 + 1)) then (if (wrap64 (a0 + 1)) ≤ 10 then (some ((⟨#[48, 49, 50, 51, 52, 53, 54, 55, 56, 57]⟩ : ByteArray).extract (a0 : Int).toNat ((wrap64 (a0 + 1)) : Int).toNat)) else (none)) else (none)) else (none)) else ((spoondriftref01_digits.f k (wrap64 (Int.tdiv a0 10))).bind fun t169 => ((spoondriftref01_digits.f k (Int.tmod a0 10)).bind fun t170 => (if t169.size + t170.size ≤ 9223372036854775807 then (some (t169 ++ t170)) else (none))))
theorem spoondriftref01_digits.mono_l : ∀ k, (∀ y0, LeO (spoondriftref01_digits.f k y0) (spoondriftref01_digits.f (k + 1) y0))
  | 0 => fun _ r h => by simp [spoondriftref01_digits.f] at h
  | k + 1 => by
    have ih0 := spoondriftref01_digits.mono_l k
    · intro y0
      unfold spoondriftref01_digits.f
      repeat' first
      | (with_reducible exact ih0 _)
      | (with_reducible exact LeO.refl _)
      | (with_reducible exact LeO.none _)
      | (with_reducible refine LeO.ite ?_ ?_)
      | (with_reducible refine LeO.bind ?_ (fun _ => ?_))
      | exact ih0 _
      | exact LeO.none _
      | refine LeO.ite ?_ ?_
      | refine LeO.bind ?_ (fun _ => ?_)
theorem spoondriftref01_digits.mono : ∀ a0 k, LeO (spoondriftref01_digits.f k a0) (spoondriftref01_digits.f (k + 1) a0) := by
  intro a0 k
  have ih0 := spoondriftref01_digits.mono_l k
  exact ih0 a0
set_option maxHeartbeats 8000000 in
set_option maxRecDepth 100000 in
theorem spoondriftref01_digits.calls (k : Nat) : ∀ (a0 : Int) (r : ByteArray) (w : World) (h : spoondriftref01_digits.f k a0 = some r),
    Calls Tryd.prog 87 #[.int .i64 a0] w fun e w' => e = .returned (.string r) ∧ Drawn0 w w' := by
  induction k using Nat.strongRecOn with
  | _ k ih =>
  intro a0 r w h
  cases k with
  | zero => exact absurd h (by simp [spoondriftref01_digits.f])
  | succ k =>
  simp only [spoondriftref01_digits.f] at h
  have H : (if a0 < 10 then (if 0 ≤ a0 then (if a0 ≤ (wrap64 (a0 + 1)) then (if (wrap64 (a0 + 1)) ≤ 10 then (some ((⟨#[48, 49, 50, 51, 52, 53, 54, 55, 56, 57]⟩ : ByteArray).extract (a0 : Int).toNat ((wrap64 (a0 + 1)) : Int).toNat)) else (none)) else (none)) else (none)) else ((spoondriftref01_digits.f k (wrap64 (Int.tdiv a0 10))).bind fun t169 => ((spoondriftref01_digits.f k (Int.tmod a0 10)).bind fun t170 => (if t169.size + t170.size ≤ 9223372036854775807 then (some (t169 ++ t170)) else (none))))) = some r := h
  clear h
  by_cases c2 : a0 < 10
  · rw [if_pos c2] at H
    have c2b0 : decide (a0 < 10) = true := decide_eq_true c2
    clear c2
    by_cases c3 : 0 ≤ a0
    · rw [if_pos c3] at H
      have c3b0 := eq_true c3
      have c3b1 : decide (0 ≤ a0) = true := decide_eq_true c3
      clear c3
      by_cases c4 : a0 ≤ (wrap64 (a0 + 1))
      · rw [if_pos c4] at H
        have c4b0 := eq_true c4
        have c4b1 : decide (a0 ≤ (wrap64 (a0 + 1))) = true := decide_eq_true c4
        by_cases c5 : (wrap64 (a0 + 1)) ≤ 10
        · rw [if_pos c5] at H
          have c5b0 := eq_true c5
          have c5b1 : decide ((wrap64 (a0 + 1)) ≤ 10) = true := decide_eq_true c5
          obtain rfl := Option.some.inj H
          go_enter Tryd.func87, Tryd.ntmps87
          go_wp2
          go_ret
          exact ⟨by first | rfl | (simp; done) | (simp [*]; done), by repeat (first | exact Drawn0.refl _ | apply Drawn0.step)⟩
        · rw [if_neg c5] at H
          exact absurd H (by simp)
      · rw [if_neg c4] at H
        exact absurd H (by simp)
    · rw [if_neg c3] at H
      exact absurd H (by simp)
  · rw [if_neg c2] at H
    have c2b0 : decide (a0 < 10) = false := decide_eq_false c2
    clear c2
    replace H := Option.bind_eq_some_iff.mp H
    obtain ⟨t169, A60, H⟩ := H
    replace H : ((spoondriftref01_digits.f k (Int.tmod a0 10)).bind fun t170 => (if t169.size + t170.size ≤ 9223372036854775807 then (some (t169 ++ t170)) else (none))) = some r := H
    have A6 := Aside0.mk A60
    clear A60
    replace H := Option.bind_eq_some_iff.mp H
    obtain ⟨t170, A70, H⟩ := H
    replace H : (if t169.size + t170.size ≤ 9223372036854775807 then (some (t169 ++ t170)) else (none)) = some r := H
    have A7 := Aside0.mk A70
    clear A70
    by_cases c8 : t169.size + t170.size ≤ 9223372036854775807
    · rw [if_pos c8] at H
      have c8b0 := eq_true c8
      have c8b1 : decide (t169.size + t170.size ≤ 9223372036854775807) = true := decide_eq_true c8
      try have c8b2 : (9223372036854775807 < t169.size + t170.size) = False := eq_false (Nat.not_lt.2 c8)
      try (have c8b3 := Nat.not_lt.2 c8; simp only [ByteArray.size_append] at c8b3; replace c8b3 := eq_false c8b3)
      obtain rfl := Option.some.inj H
      go_enter Tryd.func87, Tryd.ntmps87
      go_wp2_with (first | ((with_reducible refine gate_callee (f := 87) rfl ?_); refine goesL_ (some 11) rfl rfl Tryd.func87 (by kernel_rfl) rfl #[.int .i64 (wrap64 (Int.tdiv a0 10))] rfl (by (try simp only [List.map_toArray, List.map_cons, List.map_nil]); first | done | rfl | (simp only [List.length_drop, List.length_take]; rfl)) ?_; (with_reducible refine (ih k (by omega) (wrap64 (Int.tdiv a0 10)) t169 _ A6.out).mono ?_); rintro e w' ⟨rfl, ⟨nd, rfl⟩⟩; refine ⟨_, rfl, ?_⟩) | ((with_reducible refine gate_callee (f := 87) rfl ?_); refine goesL_ (some 14) rfl rfl Tryd.func87 (by kernel_rfl) rfl #[.int .i64 (Int.tmod a0 10)] rfl (by (try simp only [List.map_toArray, List.map_cons, List.map_nil]); first | done | rfl | (simp only [List.length_drop, List.length_take]; rfl)) ?_; (with_reducible refine (ih k (by omega) (Int.tmod a0 10) t170 _ A7.out).mono ?_); rintro e w' ⟨rfl, ⟨nd, rfl⟩⟩; refine ⟨_, rfl, ?_⟩))
      go_ret
      exact ⟨by first | rfl | (simp; done) | (simp [*]; done), by repeat (first | exact Drawn0.refl _ | apply Drawn0.step)⟩
    · rw [if_neg c8] at H
      exact absurd H (by simp)
end Go.Proofs.YtlglmooknlmomaaDoorPR
end
section
set_option linter.all false
namespace Go.Proofs.YtlglmooknlmomaaDoor
open Go.RowKit Go.Proofs.YtlglmooknlmomaaDoorPR Go.Proofs.YtlglmooknlmomaaDoor.Inj
theorem i64_and1 (n : Int) : bits .and .i64 n 1 = n % 2 := by
  have h1 : (BitVec.ofInt 64 1).toNat = 2 ^ 1 - 1 := by decide
  have key : (BitVec.ofInt 64 n &&& BitVec.ofInt 64 1).toNat = (n % ((2 ^ 64 : Nat) : Int)).toNat % 2 ^ 1 := by
    rw [BitVec.toNat_and, BitVec.toNat_ofInt, h1, Nat.and_two_pow_sub_one_eq_mod]
  show IntKind.i64.wrap ((BitVec.ofInt 64 n &&& BitVec.ofInt 64 1).toNat : Nat) = n % 2
  rw [key, IntKind.wrap_i64]
  omega
theorem wr {x : Int} (h : -9223372036854775808 ≤ x ∧ x ≤ 9223372036854775807) : wrap64 x = x := IntWalk.wrap64_in x h
def t5 (y : Nm) : Int × Int × Int × Int × Int := (y.p.a, y.p.b, y.p.c, y.p.d, y.k)
theorem beyond_eq (a b c d k L : Int) (h0 : 0 ≤ L) (h1 : L ≤ 4611686018427387904) : spoondriftref01_beyond.f a b c d k L = some (!wiB a b c d L) := by
  unfold spoondriftref01_beyond.f wiB inb
  rw [wr (x := -L) (by omega)]
  by_cases h1 : a > L
  · rw [if_pos h1]; simp; omega
  rw [if_neg h1]
  by_cases h2 : a < -L
  · rw [if_pos h2]; simp; omega
  rw [if_neg h2]
  by_cases h3 : b > L
  · rw [if_pos h3]; simp; omega
  rw [if_neg h3]
  by_cases h4 : b < -L
  · rw [if_pos h4]; simp; omega
  rw [if_neg h4]
  by_cases h5 : c > L
  · rw [if_pos h5]; simp; omega
  rw [if_neg h5]
  by_cases h6 : c < -L
  · rw [if_pos h6]; simp; omega
  rw [if_neg h6]
  by_cases h7 : d > L
  · rw [if_pos h7]; simp; omega
  rw [if_neg h7]
  simp only [Option.some.injEq]
  rw [Bool.eq_iff_iff]
  simp
  omega
theorem Check_eq (n : Nat) (hn : 1 ≤ n) (a b c d k : Int) : spoondriftref01_Check.f n a b c d k = some (chk a b c d k) := by
  obtain ⟨n, rfl⟩ : ∃ m, n = m + 1 := ⟨n - 1, by omega⟩
  unfold spoondriftref01_Check.f chk
  simp only [spoondriftref01_Check.j0]
  rw [beyond_eq a b c d k _ (by omega) (by omega)]
  by_cases h1 : k < 0
  · rw [if_pos h1, if_pos trivial, if_pos (.inl h1)]
  rw [if_neg h1]
  by_cases h2 : k > 60
  · rw [if_pos (by simpa using h2), if_pos (.inr h2)]
  rw [if_neg (by simpa using h2), if_neg (by omega)]
  simp only [Option.bind_some]
  cases wiB a b c d 1073741824 <;> simp
theorem zero_eq (a b c d k : Int) : spoondriftref01_zero.f a b c d k = some (decide (Pt.mk a b c d = Pt.zero)) := by
  unfold spoondriftref01_zero.f
  have e : (Pt.mk a b c d = Pt.zero) ↔ a = 0 ∧ b = 0 ∧ c = 0 ∧ d = 0 := Pt.ext_iff'
  simp only [e]
  by_cases h1 : a = 0
  · by_cases h2 : b = 0
    · by_cases h3 : c = 0
      · simp only [h1, h2, h3, if_true, true_and, Option.some.injEq]; rw [Bool.eq_iff_iff]; simp
      · simp [h1, h2, h3]
    · simp [h1, h2]
  · simp [h1]
theorem even_eq (a b c d k : Int) : spoondriftref01_even.f a b c d k = some (Pt.ev ⟨a, b, c, d⟩) := by
  unfold spoondriftref01_even.f Pt.ev
  rw [i64_and1, i64_and1, i64_and1, i64_and1]
  by_cases h : a % 2 = c % 2
  · rw [if_pos h]
    simp only [Option.some.injEq]
    rw [Bool.eq_iff_iff]
    simp
    omega
  · rw [if_neg h]
    simp only [Option.some.injEq]
    symm
    rw [Bool.and_eq_false_iff]
    left
    simp
    omega
theorem halved_eq {p : Pt} (k : Int) (he : p.ev = true) (hp : p.le 4611686018427387904) : spoondriftref01_halved.f p.a p.b p.c p.d k = some (p.half.a, p.half.b, p.half.c, p.half.d, k) := by
  rw [Pt.ev_iff] at he
  obtain ⟨h1, h2, h3, h4⟩ := hp
  unfold spoondriftref01_halved.f
  rw [i64_and1, i64_and1]
  have e1 : p.a / 2 + p.c / 2 + p.a % 2 = (p.a + p.c) / 2 := by omega
  have e2 : p.b / 2 + p.d / 2 + p.b % 2 = (p.b + p.d) / 2 := by omega
  have e3 : p.b / 2 - p.d / 2 = (p.b - p.d) / 2 := by omega
  have e4 : p.c / 2 - p.a / 2 = (p.c - p.a) / 2 := by omega
  rw [wr (x := p.b / 2 - p.d / 2) (by omega), wr (x := p.a / 2 + p.c / 2) (by omega), wr (x := p.b / 2 + p.d / 2) (by omega), wr (x := p.c / 2 - p.a / 2) (by omega),
    wr (x := p.a / 2 + p.c / 2 + p.a % 2) (by omega), wr (x := p.b / 2 + p.d / 2 + p.b % 2) (by omega), e1, e2, e3, e4]
  rfl
theorem Form_l0_eq (K : Nat) : ∀ (n : Nat) (p : Pt), K < n → K ≤ 1000 → p.le 4611686018427387904 → spoondriftref01_Form.l0 n p.a p.b p.c p.d K = some (t5 (nmOf (Pt.red K p))) := by
  induction K with
  | zero =>
    intro n p hn _ hp
    obtain ⟨n, rfl⟩ : ∃ m, n = m + 1 := ⟨n - 1, by omega⟩
    simp only [spoondriftref01_Form.l0]
    rw [if_neg (by simp)]
    rfl
  | succ K ih =>
    intro n p hn hK hp
    obtain ⟨n, rfl⟩ : ∃ m, n = m + 1 := ⟨n - 1, by omega⟩
    simp only [spoondriftref01_Form.l0]
    rw [if_pos (by omega), even_eq]
    simp only [Option.bind_some]
    show (if p.ev = true then _ else _) = _
    by_cases he : p.ev = true
    · rw [if_pos he, halved_eq _ he hp]
      simp only [Option.bind_some]
      rw [wr (by omega), show ((K + 1 : Nat) : Int) - 1 = (K : Int) by omega, ih n p.half (by omega) (by omega) (Pt.le_half he hp), Pt.red, if_pos he]
    · rw [if_neg he, Pt.red, if_neg he]
      rfl
theorem Form_eq (n : Nat) (p : Pt) (K : Nat) (hn : K < n) (hK : K ≤ 1000) (hp : p.le 4611686018427387904) : spoondriftref01_Form.f n p.a p.b p.c p.d K = some (t5 (nmOf (Pt.red K p))) := by
  unfold spoondriftref01_Form.f
  rw [zero_eq]
  simp only [Option.bind_some, decide_eq_true_eq]
  by_cases h : p = Pt.zero
  · rw [if_pos (by cases p; exact h), h, Pt.red_zero]
    rfl
  · rw [if_neg (by cases p; exact h)]
    exact Form_l0_eq K n p hn hK hp
def lf (x : Nm) : Nm := nmOf (Pt.red x.k.toNat x.p)
theorem Form_nm (n : Nat) (hn : 61 ≤ n) {x : Nm} (h : x.chk = 0) : spoondriftref01_Form.f n x.p.a x.p.b x.p.c x.p.d x.k = some (t5 (lf x)) := by
  obtain ⟨h1, h2, h3⟩ := Nm.chk_ok h
  have := Form_eq n x.p x.k.toNat (by omega) (by omega) (Pt.le_mono h1 (by omega))
  rwa [show ((x.k.toNat : Nat) : Int) = x.k by omega] at this
def s23 (x : Nm) : S23 := ⟨x.p.a, x.p.b, x.p.c, x.p.d, x.k⟩
end Go.Proofs.YtlglmooknlmomaaDoor
end
