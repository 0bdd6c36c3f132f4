import Derived.Test.YtlglmooknlmomaaDoorC9
set_option linter.all false
section
set_option linter.unusedVariables false
namespace Go.Proofs.YtlglmooknlmomaaDoor
open Nm
theorem sq_mono' {x y : Int} (h0 : 0 ≤ x) (h : x ≤ y) : x * x ≤ y * y := Int.mul_le_mul h h h0 (by omega)
theorem sq_lt' {x y : Int} (h0 : 0 ≤ x) (h : x < y) : x * x < y * y := by
  have h2 : x * x ≤ x * y := Int.mul_le_mul_of_nonneg_left (Int.le_of_lt h) h0
  have h3 : x * y < y * y := Int.mul_lt_mul_of_pos_right h (by omega)
  omega
theorem le_of_sq {x y : Int} (h0 : 0 ≤ y) (h : x * x ≤ y * y) : x ≤ y := by
  by_cases hx : x ≤ y
  · exact hx
  · have := sq_lt' h0 (show y < x by omega)
    omega
theorem cross {e f a b : Int} (he : 0 ≤ e) (hf : 0 ≤ f) (ha : 0 ≤ a) (hb : 0 ≤ b) (h1 : e * e ≤ 2 * (f * f)) (h2 : a * a ≤ 2 * (b * b)) : e * a ≤ 2 * (f * b) := by
  refine le_of_sq (by have := Int.mul_nonneg hf hb; omega) ?_
  have h3 : e * e * (a * a) ≤ 2 * (f * f) * (2 * (b * b)) := Int.mul_le_mul h1 h2 (Int.mul_nonneg ha ha) (by have := Int.mul_nonneg hf hf; omega)
  have e1 : e * a * (e * a) = e * e * (a * a) := by grind
  have e2 : 2 * (f * b) * (2 * (f * b)) = 2 * (f * f) * (2 * (b * b)) := by grind
  omega
theorem cross2 {e f a b : Int} (he : 0 ≤ e) (hf : 0 ≤ f) (ha : 0 ≤ a) (hb : 0 ≤ b) (h1 : 2 * (f * f) ≤ e * e) (h2 : 2 * (b * b) ≤ a * a) : 2 * (f * b) ≤ e * a := by
  refine le_of_sq (Int.mul_nonneg he ha) ?_
  have h3 : 2 * (f * f) * (2 * (b * b)) ≤ e * e * (a * a) := Int.mul_le_mul h1 h2 (by have := Int.mul_nonneg hb hb; omega) (Int.mul_nonneg he he)
  have e1 : e * a * (e * a) = e * e * (a * a) := by grind
  have e2 : 2 * (f * b) * (2 * (f * b)) = 2 * (f * f) * (2 * (b * b)) := by grind
  omega
theorem sq_add (x y : Int) : (x + y) * (x + y) = x * x + 2 * (x * y) + y * y := by grind
def Pos (a b : Int) : Prop := (0 < a ∧ 0 ≤ b) ∨ (0 ≤ a ∧ 0 < b) ∨ (a < 0 ∧ 0 < b ∧ a * a ≤ 2 * (b * b)) ∨ (0 < a ∧ b < 0 ∧ 2 * (b * b) ≤ a * a)
theorem negB_pos (a b : Int) : negB a b = true ↔ Pos (-a) (-b) := by
  unfold negB Pos
  rw [decide_eq_true_eq]
  have e1 : -a * -a = a * a := by grind
  have e2 : -b * -b = b * b := by grind
  have e3 : 2 * b * b = 2 * (b * b) := by grind
  rw [e1, e2, e3]
  generalize a * a = A
  generalize b * b = B
  omega
theorem pos_34 {A B C D : Int} (hA : 0 < A) (hB : 0 < B) (hC : 0 < C) (hD : 0 < D) (h1 : A * A ≤ 2 * (B * B)) (h2 : 2 * (D * D) ≤ C * C) : Pos (C - A) (B - D) := by
  by_cases c1 : A ≤ C
  · by_cases c2 : D ≤ B
    · by_cases c3 : A < C
      · exact .inl ⟨by omega, by omega⟩
      · obtain rfl : A = C := by omega
        by_cases c4 : D < B
        · exact .inr (.inl ⟨by omega, by omega⟩)
        · obtain rfl : D = B := by omega
          have := sqrt2i A D (by omega)
          omega
    · by_cases c3 : A < C
      · refine .inr (.inr (.inr ⟨by omega, by omega, ?_⟩))
        by_cases h : 2 * ((B - D) * (B - D)) ≤ (C - A) * (C - A)
        · exact h
        · exfalso
          obtain ⟨E, hE⟩ : ∃ E, C = E + A := ⟨C - A, by omega⟩
          obtain ⟨F, hF⟩ : ∃ F, D = F + B := ⟨D - B, by omega⟩
          subst hE hF
          have e1 : (B - (F + B)) * (B - (F + B)) = F * F := by grind
          have e2 : (E + A - A) * (E + A - A) = E * E := by grind
          rw [e1, e2] at h
          have h3 := cross (e := E) (f := F) (a := A) (b := B) (by omega) (by omega) (by omega) (by omega) (by omega) h1
          rw [sq_add, sq_add] at h2
          omega
      · exfalso
        obtain rfl : A = C := by omega
        have := sq_lt' (x := B) (y := D) (by omega) (by omega)
        omega
  · by_cases c2 : D < B
    · refine .inr (.inr (.inl ⟨by omega, by omega, ?_⟩))
      by_cases h : (C - A) * (C - A) ≤ 2 * ((B - D) * (B - D))
      · exact h
      · exfalso
        obtain ⟨E, hE⟩ : ∃ E, A = E + C := ⟨A - C, by omega⟩
        obtain ⟨F, hF⟩ : ∃ F, B = F + D := ⟨B - D, by omega⟩
        subst hE hF
        have e1 : (F + D - D) * (F + D - D) = F * F := by grind
        have e2 : (C - (E + C)) * (C - (E + C)) = E * E := by grind
        rw [e1, e2] at h
        have h3 := cross2 (e := E) (f := F) (a := C) (b := D) (by omega) (by omega) (by omega) (by omega) (by omega) h2
        rw [sq_add, sq_add] at h1
        omega
    · exfalso
      have h3 := sq_lt' (x := C) (y := A) (by omega) (by omega)
      have h4 := sq_mono' (x := B) (y := D) (by omega) (by omega)
      omega
theorem pos_13 {a b A B : Int} (ha : 0 ≤ a) (hb : 0 ≤ b) (hA : 0 < A) (hB : 0 < B) (h : A * A ≤ 2 * (B * B)) : Pos (a - A) (b + B) := by
  by_cases c : A ≤ a
  · exact .inr (.inl ⟨by omega, by omega⟩)
  · refine .inr (.inr (.inl ⟨by omega, by omega, ?_⟩))
    have h1 := sq_mono' (x := A - a) (y := A) (by omega) (by omega)
    have h2 := sq_mono' (x := B) (y := b + B) (by omega) (by omega)
    have e : (a - A) * (a - A) = (A - a) * (A - a) := by grind
    omega
theorem pos_14 {a b C D : Int} (ha : 0 ≤ a) (hb : 0 ≤ b) (hC : 0 < C) (hD : 0 < D) (h : 2 * (D * D) ≤ C * C) : Pos (a + C) (b - D) := by
  by_cases c : D ≤ b
  · exact .inl ⟨by omega, by omega⟩
  · refine .inr (.inr (.inr ⟨by omega, by omega, ?_⟩))
    have h1 := sq_mono' (x := D - b) (y := D) (by omega) (by omega)
    have h2 := sq_mono' (x := C) (y := a + C) (by omega) (by omega)
    have e : (b - D) * (b - D) = (D - b) * (D - b) := by grind
    omega
theorem pos_add {a b c d : Int} (h1 : Pos a b) (h2 : Pos c d) : Pos (a + c) (b + d) := by
  have n3 : ∀ {x y : Int}, x < 0 ∧ 0 < y ∧ x * x ≤ 2 * (y * y) → ∃ X, x = -X ∧ 0 < X ∧ X * X ≤ 2 * (y * y) := fun {x y} h => by
    have e : -x * -x = x * x := by grind
    exact ⟨-x, by omega, by omega, by rw [e]; exact h.2.2⟩
  have n4 : ∀ {x y : Int}, 0 < x ∧ y < 0 ∧ 2 * (y * y) ≤ x * x → ∃ Y, y = -Y ∧ 0 < Y ∧ 2 * (Y * Y) ≤ x * x := fun {x y} h => by
    have e : -y * -y = y * y := by grind
    exact ⟨-y, by omega, by omega, by rw [e]; exact h.2.2⟩
  have s1 : ∀ {a b c d : Int}, 0 ≤ a → 0 ≤ b → (0 < a ∨ 0 < b) → Pos c d → Pos (a + c) (b + d) := fun {a b c d} ha hb hab h => by
    rcases h with h | h | h | h
    · exact .inl ⟨by omega, by omega⟩
    · exact .inr (.inl ⟨by omega, by omega⟩)
    · obtain ⟨X, rfl, hX, h3⟩ := n3 h
      exact pos_13 ha hb hX h.2.1 h3
    · obtain ⟨Y, rfl, hY, h3⟩ := n4 h
      exact pos_14 ha hb h.1 hY h3
  rcases h1 with h | h | h | h
  · exact s1 (by omega) h.2 (.inl h.1) h2
  · exact s1 h.1 (by omega) (.inr h.2) h2
  · rcases h2 with k | k | k | k
    · rw [Int.add_comm a, Int.add_comm b]; exact s1 (by omega) k.2 (.inl k.1) (.inr (.inr (.inl h)))
    · rw [Int.add_comm a, Int.add_comm b]; exact s1 k.1 (by omega) (.inr k.2) (.inr (.inr (.inl h)))
    · obtain ⟨X, rfl, hX, h3⟩ := n3 h
      obtain ⟨Z, rfl, hZ, h4⟩ := n3 k
      have := cross (e := X) (f := b) (a := Z) (b := d) (by omega) (by omega) (by omega) (by omega) h3 h4
      refine .inr (.inr (.inl ⟨by omega, by omega, ?_⟩))
      have e1 : (-X + -Z) * (-X + -Z) = X * X + 2 * (X * Z) + Z * Z := by grind
      rw [e1, sq_add]
      omega
    · obtain ⟨X, rfl, hX, h3⟩ := n3 h
      obtain ⟨Y, rfl, hY, h4⟩ := n4 k
      have := pos_34 hX h.2.1 k.1 hY h3 h4
      rw [show -X + c = c - X by omega, show b + -Y = b - Y by omega]
      exact this
  · rcases h2 with k | k | k | k
    · rw [Int.add_comm a, Int.add_comm b]; exact s1 (by omega) k.2 (.inl k.1) (.inr (.inr (.inr h)))
    · rw [Int.add_comm a, Int.add_comm b]; exact s1 k.1 (by omega) (.inr k.2) (.inr (.inr (.inr h)))
    · obtain ⟨X, rfl, hX, h3⟩ := n3 k
      obtain ⟨Y, rfl, hY, h4⟩ := n4 h
      have := pos_34 hX k.2.1 h.1 hY h3 h4
      rw [show a + -X = a - X by omega, show -Y + d = d - Y by omega]
      exact this
    · obtain ⟨Y, rfl, hY, h3⟩ := n4 h
      obtain ⟨Z, rfl, hZ, h4⟩ := n4 k
      have := cross2 (e := a) (f := Y) (a := c) (b := Z) (by omega) (by omega) (by omega) (by omega) h3 h4
      refine .inr (.inr (.inr ⟨by omega, by omega, ?_⟩))
      have e1 : (-Y + -Z) * (-Y + -Z) = Y * Y + 2 * (Y * Z) + Z * Z := by grind
      rw [e1, sq_add]
      omega
theorem pos_not {a b : Int} (h : Pos a b) : ¬ Pos (-a) (-b) := fun h2 => by
  have h3 := pos_add h h2
  rw [show a + -a = 0 by omega, show b + -b = 0 by omega] at h3
  unfold Pos at h3
  omega
theorem pos_or (a b : Int) : Pos a b ∨ Pos (-a) (-b) ∨ (a = 0 ∧ b = 0) := by
  unfold Pos
  have e1 : -a * -a = a * a := by grind
  have e2 : -b * -b = b * b := by grind
  rw [e1, e2]
  generalize a * a = A
  generalize b * b = B
  omega
namespace Pt
theorem le_scale {B : Int} {p : Pt} (h : p.le B) (i : Nat) : (p.scale (2 ^ i)).le (B * 2 ^ i) := by
  have hp : (0 : Int) ≤ 2 ^ i := Int.le_of_lt (Int.pow_pos (by decide))
  have f : ∀ {x : Int}, -B ≤ x ∧ x ≤ B → -(B * 2 ^ i) ≤ 2 ^ i * x ∧ 2 ^ i * x ≤ B * 2 ^ i := fun {x} h => by
    have h1 := Int.mul_le_mul_of_nonneg_left h.1 hp
    have h2 := Int.mul_le_mul_of_nonneg_left h.2 hp
    rw [Int.mul_neg] at h1
    rw [Int.mul_comm B]
    exact ⟨h1, h2⟩
  exact ⟨f h.1, f h.2.1, f h.2.2.1, f h.2.2.2⟩
theorem le_twh {j M : Nat} {B : Int} {p : Pt} (h : p.le B) (hj : j ≤ M) : (tw j p).le (B * 2 ^ ((M + 1) / 2)) := by
  have b0 := le_b0 h
  rcases (show j % 2 = 0 ∨ j % 2 = 1 by omega) with e | e
  · obtain ⟨i, rfl⟩ : ∃ i, j = 2 * i := ⟨j / 2, by omega⟩
    rw [tw_even]
    exact le_mono (le_scale h i) (Int.mul_le_mul_of_nonneg_left (pow2_mono (by omega)) b0)
  · obtain ⟨i, rfl⟩ : ∃ i, j = 2 * i + 1 := ⟨j / 2, by omega⟩
    show (tw (2 * i) p.twice).le _
    rw [tw_even]
    have h2 := le_scale (le_twice h) i
    rw [show 2 * B * 2 ^ i = B * 2 ^ (i + 1) by rw [Int.pow_succ, Int.mul_comm 2 B, Int.mul_assoc, Int.mul_comm (2 ^ i) 2]] at h2
    exact le_mono h2 (Int.mul_le_mul_of_nonneg_left (pow2_mono (by omega)) b0)
theorem re_sub {p q : Pt} (hp : p.Re) (hq : q.Re) : (p.sub q).Re := by simp only [Re, sub] at *; omega
theorem re_add {p q : Pt} (hp : p.Re) (hq : q.Re) : (p.add q).Re := by simp only [Re, add] at *; omega
end Pt
theorem add_inh {B C D : Int} {K L M : Nat} {x z : Nm} (hx : In B K x) (hz : In C L z) (hM : max K L ≤ M) (hD : (B + C) * 2 ^ ((M + 1) / 2) ≤ D) (hB : B ≤ 1073741824) (hC : C ≤ 1073741824) (hD1 : D ≤ 1073741824) (hM1 : M ≤ 60) :
    ∃ y, sAdd x z = (y, 0) ∧ In D M y ∧ Cn y ∧ ∀ N, M ≤ N → sv N y = (sv N x).add (sv N z) := by
  have kx := hx.kn
  have kz := hz.kn
  have hc : chks [x, z] = 0 := chks_in hx hz hB (by omega) hC (by omega)
  have hl : (plusP x z).le D := by
    refine Pt.le_mono (Pt.le_add (Pt.le_twh (M := M) hx.le (by omega)) (Pt.le_twh (M := M) hz.le (by omega))) ?_
    rw [← Int.add_mul]; exact hD
  obtain ⟨e, i, c⟩ := least_red (k := max x.k.toNat z.k.toNat) (K := M) hl hD1 (by omega) hM1
  refine ⟨_, by unfold sAdd; rw [if_pos hc]; exact e, i, c, fun N hN => ?_⟩
  rw [sv_red (by omega)]
  unfold plusP sv
  rw [← Pt.tw_addp, ← Pt.tw_add, ← Pt.tw_add]
  congr 2 <;> omega
theorem sub_inh {B C D : Int} {K L M : Nat} {x z : Nm} (hx : In B K x) (hz : In C L z) (hM : max K L ≤ M) (hD : (B + C) * 2 ^ ((M + 1) / 2) ≤ D) (hB : B ≤ 1073741824) (hC : C ≤ 1073741824) (hD1 : D ≤ 1073741824) (hM1 : M ≤ 60) :
    ∃ y, sSub x z = (y, 0) ∧ In D M y ∧ Cn y ∧ ∀ N, M ≤ N → sv N y = (sv N x).sub (sv N z) := by
  have kx := hx.kn
  have kz := hz.kn
  have hc : chks [x, z] = 0 := chks_in hx hz hB (by omega) hC (by omega)
  have hl : (minusP x z).le D := by
    refine Pt.le_mono (Pt.le_sub (Pt.le_twh (M := M) hx.le (by omega)) (Pt.le_twh (M := M) hz.le (by omega))) ?_
    rw [← Int.add_mul]; exact hD
  obtain ⟨e, i, c⟩ := least_red (k := max x.k.toNat z.k.toNat) (K := M) hl hD1 (by omega) hM1
  refine ⟨_, by unfold sSub; rw [if_pos hc]; exact e, i, c, fun N hN => ?_⟩
  rw [sv_red (by omega)]
  unfold minusP sv
  rw [← Pt.tw_sub, ← Pt.tw_add, ← Pt.tw_add]
  congr 2 <;> omega
theorem sub_same {p q x y : Nm} (hp : chks [p, q] = 0) (hx : chks [x, y] = 0) (N : Nat) (k1 : p.k.toNat ≤ N) (k2 : q.k.toNat ≤ N) (k3 : x.k.toNat ≤ N) (k4 : y.k.toNat ≤ N)
    (h : (sv N p).sub (sv N q) = (sv N x).sub (sv N y)) : sSub p q = sSub x y := by
  have e : ∀ u v : Nm, u.k.toNat ≤ N → v.k.toNat ≤ N → (sv N u).sub (sv N v) = Pt.tw (N - max u.k.toNat v.k.toNat) (minusP u v) := fun u v h1 h2 => by
    unfold minusP sv
    rw [← Pt.tw_sub, ← Pt.tw_add, ← Pt.tw_add]
    congr 2 <;> omega
  rw [e p q k1 k2, e x y k3 k4] at h
  unfold sSub
  rw [if_pos hp, if_pos hx]
  congr 1
  rw [Pt.red_eq]
  apply Pt.tw_inj (n := N)
  have h2 : Pt.tw (max p.k.toNat q.k.toNat + max x.k.toNat y.k.toNat) (Pt.tw (N - max p.k.toNat q.k.toNat) (minusP p q)) = Pt.tw (max p.k.toNat q.k.toNat + max x.k.toNat y.k.toNat) (Pt.tw (N - max x.k.toNat y.k.toNat) (minusP x y)) := by rw [h]
  rw [← Pt.tw_add, ← Pt.tw_add] at h2 ⊢
  rw [show N + max x.k.toNat y.k.toNat = max p.k.toNat q.k.toNat + max x.k.toNat y.k.toNat + (N - max p.k.toNat q.k.toNat) by omega, show N + max p.k.toNat q.k.toNat = max p.k.toNat q.k.toNat + max x.k.toNat y.k.toNat + (N - max x.k.toNat y.k.toNat) by omega]
  exact h2
theorem less_inh {B C D : Int} {K L M : Nat} {x z : Nm} (hx : In B K x) (hz : In C L z) (hM : max K L ≤ M) (hD : (B + C) * 2 ^ ((M + 1) / 2) ≤ D) (hB : B ≤ 1073741824) (hC : C ≤ 1073741824) (hD1 : D ≤ 1073741824) (hM1 : M ≤ 60) (rx : x.p.Re) (rz : z.p.Re) :
    ∃ b, sLess x z = (b, 0) ∧ ∀ N, M ≤ N → b = negB ((sv N x).sub (sv N z)).a ((sv N x).sub (sv N z)).b := by
  obtain ⟨y, e, i, c, s⟩ := sub_inh hx hz hM hD hB hC hD1 hM1
  have hc : chks [x, z] = 0 := chks_in hx hz hB (by omega) hC (by omega)
  refine ⟨negB y.p.a y.p.b, ?_, fun N hN => ?_⟩
  · unfold sLess
    rw [if_pos hc, realB_re.2 rx, realB_re.2 rz, e]
    rfl
  · rw [← s N hN]
    have hr : y.p.Re := by
      rw [← sv_re (N := N), s N hN]
      exact Pt.re_sub (sv_re.2 rx) (sv_re.2 rz)
    exact (Pt.neg_tw hr).symm
structure Rl (x : Nm) : Prop where
  i : In 819200 12 x
  c : Cn x
  r : x.p.Re
theorem diff_rl {x y : Nm} (hx : In 40 6 x) (hy : In 40 6 y) : ∃ a b d : Nm, sNorm x = (a, 0) ∧ sNorm y = (b, 0) ∧ sSub a b = (d, 0) ∧ Rl d := by
  obtain ⟨a, ea, ia, ca, sa⟩ := norm_in (D := 6400) hx (by decide) (by decide) (by decide) (by decide)
  obtain ⟨b, eb, ib, cb, sb⟩ := norm_in (D := 6400) hy (by decide) (by decide) (by decide) (by decide)
  obtain ⟨d, ed, id, cd, sd⟩ := sub_inh (D := 819200) (M := 12) ia ib (by decide) (by decide) (by decide) (by decide) (by decide) (by decide)
  refine ⟨a, b, d, ea, eb, ed, id, cd, ?_⟩
  rw [← sv_re (N := 12), sd 12 (by decide)]
  refine Pt.re_sub ?_ ?_
  · rw [show (12 : Nat) = 6 + 6 from rfl, sa 6 (by decide)]; exact Pt.mul_conj_re _
  · rw [show (12 : Nat) = 6 + 6 from rfl, sb 6 (by decide)]; exact Pt.mul_conj_re _
theorem ordered_plain {x y z : Nm} (hx : Rl x) (hy : Rl y) (hz : Rl z) :
    ∃ (a b s d i : Bool) (p q : Nm), sLess x y = (a, 0) ∧ sLess y x = (b, 0) ∧ sSame x y = (s, 0) ∧ sAdd x z = (p, 0) ∧ sAdd y z = (q, 0) ∧ sLess p q = (a, 0) ∧ sLess y z = (d, 0) ∧ sLess x z = (i, 0) ∧
      ((a = true ∧ b = false ∧ s = false) ∨ (a = false ∧ b = true ∧ s = false) ∨ (a = false ∧ b = false ∧ s = true)) ∧ (a = true → d = true → i = true) := by
  have L := fun {u v : Nm} (hu : Rl u) (hv : Rl v) => less_inh (D := 104857600) (M := 12) hu.i hv.i (by decide) (by decide) (by decide) (by decide) (by decide) (by decide) hu.r hv.r
  obtain ⟨a, ea, ha⟩ := L hx hy
  obtain ⟨b, eb, hb⟩ := L hy hx
  obtain ⟨d, ed, hd⟩ := L hy hz
  obtain ⟨i, ei, hi⟩ := L hx hz
  obtain ⟨s, es, hs⟩ := same_in hx.i hy.i (by decide) (by decide) (by decide) (by decide)
  obtain ⟨p, ep, ip, cp, sp⟩ := add_inh (D := 104857600) (M := 12) hx.i hz.i (by decide) (by decide) (by decide) (by decide) (by decide) (by decide)
  obtain ⟨q, eq, iq, cq, sq⟩ := add_inh (D := 104857600) (M := 12) hy.i hz.i (by decide) (by decide) (by decide) (by decide) (by decide) (by decide)
  have hc : chks [p, q] = 0 := chks_in ip iq (by decide) (by decide) (by decide) (by decide)
  have hc2 : chks [x, y] = 0 := chks_in hx.i hy.i (by decide) (by decide) (by decide) (by decide)
  have rp : p.p.Re := by rw [← sv_re (N := 12), sp 12 (by decide)]; exact Pt.re_add (sv_re.2 hx.r) (sv_re.2 hz.r)
  have rq : q.p.Re := by rw [← sv_re (N := 12), sq 12 (by decide)]; exact Pt.re_add (sv_re.2 hy.r) (sv_re.2 hz.r)
  have epq : sLess p q = (a, 0) := by
    rw [← ea]
    have e := sub_same hc hc2 12 ip.kn iq.kn hx.i.kn hy.i.kn (by
      rw [sp 12 (by decide), sq 12 (by decide)]
      apply Pt.ext' <;> simp only [Pt.add, Pt.sub] <;> omega)
    unfold sLess
    rw [if_pos hc, if_pos hc2, realB_re.2 rp, realB_re.2 rq, realB_re.2 hx.r, realB_re.2 hy.r, e]
  have ha' := ha 12 (by decide)
  have hb' := hb 12 (by decide)
  have hd' := hd 12 (by decide)
  have hi' := hi 12 (by decide)
  have hs' := hs 12 (by decide) (by decide)
  have rx := (sv_re (N := 12)).2 hx.r
  have ry := (sv_re (N := 12)).2 hy.r
  have rz := (sv_re (N := 12)).2 hz.r
  generalize sv 12 x = X at *
  generalize sv 12 y = Y at *
  generalize sv 12 z = Z at *
  have A : a = true ↔ Pos (Y.a - X.a) (Y.b - X.b) := by
    rw [ha', negB_pos]; simp only [Pt.sub]
    rw [show -(X.a - Y.a) = Y.a - X.a by omega, show -(X.b - Y.b) = Y.b - X.b by omega]
  have B : b = true ↔ Pos (X.a - Y.a) (X.b - Y.b) := by
    rw [hb', negB_pos]; simp only [Pt.sub]
    rw [show -(Y.a - X.a) = X.a - Y.a by omega, show -(Y.b - X.b) = X.b - Y.b by omega]
  have Dd : d = true ↔ Pos (Z.a - Y.a) (Z.b - Y.b) := by
    rw [hd', negB_pos]; simp only [Pt.sub]
    rw [show -(Y.a - Z.a) = Z.a - Y.a by omega, show -(Y.b - Z.b) = Z.b - Y.b by omega]
  have I : i = true ↔ Pos (Z.a - X.a) (Z.b - X.b) := by
    rw [hi', negB_pos]; simp only [Pt.sub]
    rw [show -(X.a - Z.a) = Z.a - X.a by omega, show -(X.b - Z.b) = Z.b - X.b by omega]
  have S : X = Y ↔ X.a - Y.a = 0 ∧ X.b - Y.b = 0 := by
    constructor
    · rintro rfl; exact ⟨by omega, by omega⟩
    · rintro ⟨h1, h2⟩
      obtain ⟨r1, r2⟩ := rx
      obtain ⟨r3, r4⟩ := ry
      apply Pt.ext' <;> omega
  have F : ∀ {v : Bool}, ¬ v = true → v = false := fun {v} h => by cases v <;> simp_all
  refine ⟨a, b, s, d, i, p, q, ea, eb, es, ep, eq, epq, ed, ei, ?_, ?_⟩
  · rcases pos_or (X.a - Y.a) (X.b - Y.b) with h | h | h
    · right; left
      refine ⟨F fun h2 => ?_, B.2 h, F fun h2 => ?_⟩
      · have := pos_not h
        rw [show -(X.a - Y.a) = Y.a - X.a by omega, show -(X.b - Y.b) = Y.b - X.b by omega] at this
        exact this (A.1 h2)
      · obtain ⟨h3, h4⟩ := S.1 (hs'.1 h2)
        rw [h3, h4] at h; unfold Pos at h; omega
    · left
      have h' := h
      rw [show -(X.a - Y.a) = Y.a - X.a by omega, show -(X.b - Y.b) = Y.b - X.b by omega] at h'
      refine ⟨A.2 h', F fun h2 => ?_, F fun h2 => ?_⟩
      · exact pos_not (B.1 h2) h
      · obtain ⟨h3, h4⟩ := S.1 (hs'.1 h2)
        rw [h3, h4] at h; unfold Pos at h; omega
    · right; right
      refine ⟨F fun h2 => ?_, F fun h2 => ?_, hs'.2 (S.2 h)⟩
      · have h3 := A.1 h2
        rw [show Y.a - X.a = 0 by omega, show Y.b - X.b = 0 by omega] at h3; unfold Pos at h3; omega
      · have h3 := B.1 h2
        rw [h.1, h.2] at h3; unfold Pos at h3; omega
  · intro h1 h2
    have h3 := pos_add (A.1 h1) (Dd.1 h2)
    rw [show Y.a - X.a + (Z.a - Y.a) = Z.a - X.a by omega, show Y.b - X.b + (Z.b - Y.b) = Z.b - X.b by omega] at h3
    exact I.2 h3
theorem norm_ex {x : Nm} (hx : In 40 6 x) : ∃ a : Nm, sNorm x = (a, 0) := by
  obtain ⟨a, ea, _⟩ := norm_in (D := 6400) hx (by decide) (by decide) (by decide) (by decide)
  exact ⟨a, ea⟩
theorem diff_of {x y a b : Nm} (hx : In 40 6 x) (hy : In 40 6 y) (ea : sNorm x = (a, 0)) (eb : sNorm y = (b, 0)) : ∃ d : Nm, sSub a b = (d, 0) ∧ Rl d := by
  obtain ⟨a', b', d, ea', eb', ed, hd⟩ := diff_rl hx hy
  rw [ea] at ea'
  rw [eb] at eb'
  obtain rfl : a = a' := congrArg Prod.fst ea'
  obtain rfl : b = b' := congrArg Prod.fst eb'
  exact ⟨d, ed, hd⟩
end Go.Proofs.YtlglmooknlmomaaDoor
end
