set_option linter.all false
section
namespace Go.Proofs.YtepdnjjfhbjcjaaGreatDoor
structure Pt where
  a : Int
  b : Int
  c : Int
  d : Int
namespace Pt
theorem ext' {p q : Pt} (h1 : p.a = q.a) (h2 : p.b = q.b) (h3 : p.c = q.c) (h4 : p.d = q.d) : p = q := by
  cases p; cases q; simp_all
theorem ext_iff' {p q : Pt} : p = q ↔ p.a = q.a ∧ p.b = q.b ∧ p.c = q.c ∧ p.d = q.d :=
  ⟨fun h => by subst h; exact ⟨rfl, rfl, rfl, rfl⟩, fun ⟨h1, h2, h3, h4⟩ => ext' h1 h2 h3 h4⟩
instance : DecidableEq Pt := fun p q =>
  if h : p.a = q.a ∧ p.b = q.b ∧ p.c = q.c ∧ p.d = q.d then isTrue (ext_iff'.2 h) else isFalse (fun e => h (ext_iff'.1 e))
def zero : Pt := ⟨0, 0, 0, 0⟩
def one : Pt := ⟨1, 0, 0, 0⟩
def half (p : Pt) : Pt := ⟨(p.b - p.d) / 2, (p.a + p.c) / 2, (p.b + p.d) / 2, (p.c - p.a) / 2⟩
def twice (p : Pt) : Pt := ⟨p.b - p.d, p.a + p.c, p.b + p.d, p.c - p.a⟩
def ev (p : Pt) : Bool := decide ((p.a - p.c) % 2 = 0) && decide ((p.b - p.d) % 2 = 0)
def add (p q : Pt) : Pt := ⟨p.a + q.a, p.b + q.b, p.c + q.c, p.d + q.d⟩
def sub (p q : Pt) : Pt := ⟨p.a - q.a, p.b - q.b, p.c - q.c, p.d - q.d⟩
def mul (p q : Pt) : Pt :=
  ⟨p.a * q.a - p.b * q.d - p.c * q.c - p.d * q.b, p.a * q.b + p.b * q.a - p.c * q.d - p.d * q.c,
   p.a * q.c + p.b * q.b + p.c * q.a - p.d * q.d, p.a * q.d + p.b * q.c + p.c * q.b + p.d * q.a⟩
def conj (p : Pt) : Pt := ⟨p.a, -p.d, -p.c, -p.b⟩
def dot (p : Pt) : Pt := ⟨p.a, -p.b, p.c, -p.d⟩
def sm (B : Int) (p : Pt) : Prop := (-B ≤ p.a + p.c ∧ p.a + p.c ≤ B) ∧ (-B ≤ p.a - p.c ∧ p.a - p.c ≤ B) ∧ (-B ≤ p.b + p.d ∧ p.b + p.d ≤ B) ∧ (-B ≤ p.b - p.d ∧ p.b - p.d ≤ B)
def le (B : Int) (p : Pt) : Prop := (-B ≤ p.a ∧ p.a ≤ B) ∧ (-B ≤ p.b ∧ p.b ≤ B) ∧ (-B ≤ p.c ∧ p.c ≤ B) ∧ (-B ≤ p.d ∧ p.d ≤ B)
theorem ev_iff (p : Pt) : p.ev = true ↔ (p.a - p.c) % 2 = 0 ∧ (p.b - p.d) % 2 = 0 := by simp [ev]
theorem half_twice (p : Pt) : p.twice.half = p := by apply ext' <;> simp only [half, twice] <;> omega
theorem ev_twice (p : Pt) : p.twice.ev = true := by rw [ev_iff]; simp only [twice]; omega
theorem twice_half (p : Pt) (h : p.ev = true) : p.half.twice = p := by
  rw [ev_iff] at h; apply ext' <;> simp only [half, twice] <;> omega
theorem sm_half {B : Int} {p : Pt} (h : p.ev = true) (hs : p.sm B) : p.half.sm B := by
  rw [ev_iff] at h; simp only [sm, half] at *; omega
theorem sm_le {B : Int} {p : Pt} (hs : p.sm B) : p.le B := by simp only [sm, le] at *; omega
theorem le_sm {B : Int} {p : Pt} (hs : p.le B) : p.sm (2 * B) := by simp only [sm, le] at *; omega
theorem le_half {B : Int} {p : Pt} (h : p.ev = true) (hs : p.le B) : p.half.le B := by
  rw [ev_iff] at h; simp only [le, half] at *; omega
theorem le_twice {B : Int} {p : Pt} (hs : p.le B) : p.twice.le (2 * B) := by simp only [le, twice] at *; omega
theorem le_mono {B C : Int} {p : Pt} (hs : p.le B) (h : B ≤ C) : p.le C := by simp only [le] at *; omega
theorem sm_mono {B C : Int} {p : Pt} (hs : p.sm B) (h : B ≤ C) : p.sm C := by simp only [sm] at *; omega
theorem zero_ev : zero.ev = true := by decide
theorem zero_half : zero.half = zero := by decide
theorem zero_twice : zero.twice = zero := by decide
def tw : Nat → Pt → Pt
  | 0, p => p
  | n + 1, p => tw n p.twice
theorem tw_succ (n : Nat) (p : Pt) : tw (n + 1) p = (tw n p).twice := by
  induction n generalizing p with
  | zero => rfl
  | succ n ih => show tw (n + 1) p.twice = _; rw [ih]; rfl
theorem tw_add (m n : Nat) (p : Pt) : tw (m + n) p = tw m (tw n p) := by
  induction m with
  | zero => simp [tw]
  | succ m ih => rw [Nat.add_right_comm, tw_succ, ih, tw_succ]
theorem tw_zero (n : Nat) : tw n zero = zero := by
  induction n with
  | zero => rfl
  | succ n ih => rw [tw_succ, ih, zero_twice]
theorem mul_comm (p q : Pt) : p.mul q = q.mul p := by apply ext' <;> simp only [mul] <;> grind
theorem mul_assoc (p q r : Pt) : (p.mul q).mul r = p.mul (q.mul r) := by apply ext' <;> simp only [mul] <;> grind
theorem add_comm (p q : Pt) : p.add q = q.add p := by apply ext' <;> simp only [add] <;> omega
theorem add_assoc (p q r : Pt) : (p.add q).add r = p.add (q.add r) := by apply ext' <;> simp only [add] <;> omega
theorem one_mul (p : Pt) : one.mul p = p := by apply ext' <;> simp only [mul, one] <;> grind
theorem mul_one (p : Pt) : p.mul one = p := by rw [mul_comm, one_mul]
theorem zero_mul (p : Pt) : zero.mul p = zero := by apply ext' <;> simp [mul, zero]
theorem zero_add (p : Pt) : zero.add p = p := by apply ext' <;> simp [add, zero]
theorem twice_mul (p q : Pt) : p.twice.mul q = (p.mul q).twice := by apply ext' <;> simp only [mul, twice] <;> grind
theorem twice_add (p q : Pt) : p.twice.add q.twice = (p.add q).twice := by apply ext' <;> simp only [add, twice] <;> omega
theorem tw_mul (n : Nat) (p q : Pt) : (tw n p).mul q = tw n (p.mul q) := by
  induction n with
  | zero => rfl
  | succ n ih => rw [tw_succ, tw_succ, twice_mul, ih]
theorem mul_tw (n : Nat) (p q : Pt) : p.mul (tw n q) = tw n (p.mul q) := by rw [mul_comm, tw_mul, mul_comm]
theorem tw_addp (n : Nat) (p q : Pt) : (tw n p).add (tw n q) = tw n (p.add q) := by
  induction n with
  | zero => rfl
  | succ n ih => rw [tw_succ, tw_succ, tw_succ, twice_add, ih]
def red : Nat → Pt → Pt × Nat
  | 0, p => (p, 0)
  | k + 1, p => if p.ev then red k p.half else (p, k + 1)
theorem red_twice (k : Nat) (p : Pt) : red (k + 1) p.twice = red k p := by rw [red, if_pos (ev_twice p), half_twice]
theorem red_tw (j k : Nat) (p : Pt) : red (k + j) (tw j p) = red k p := by
  induction j with
  | zero => rfl
  | succ j ih => rw [tw_succ, ← Nat.add_assoc, red_twice, ih]
theorem red_zero (k : Nat) : red k zero = (zero, 0) := by
  induction k with
  | zero => rfl
  | succ k ih => rw [red, if_pos zero_ev, zero_half, ih]
theorem red_ex (k : Nat) (p : Pt) : ∃ j, p = tw j (red k p).1 ∧ k = j + (red k p).2 := by
  induction k generalizing p with
  | zero => exact ⟨0, rfl, rfl⟩
  | succ k ih =>
    unfold red
    by_cases h : p.ev = true
    · rw [if_pos h]
      obtain ⟨j, h1, h2⟩ := ih p.half
      refine ⟨j + 1, ?_, by omega⟩
      rw [tw_succ, ← h1, twice_half p h]
    · rw [if_neg h]
      exact ⟨0, rfl, by simp⟩
theorem red_kle (k : Nat) (p : Pt) : (red k p).2 ≤ k := by obtain ⟨j, _, h⟩ := red_ex k p; omega
theorem red_le {B : Int} (k : Nat) (p : Pt) (h : p.le B) : (red k p).1.le B := by
  induction k generalizing p with
  | zero => exact h
  | succ k ih =>
    unfold red
    by_cases he : p.ev = true
    · rw [if_pos he]; exact ih _ (le_half he h)
    · rw [if_neg he]; exact h
theorem red_eq {k l : Nat} {p q : Pt} : red k p = red l q ↔ tw l p = tw k q := by
  constructor
  · intro h
    obtain ⟨i, h1, h2⟩ := red_ex k p
    obtain ⟨j, h3, h4⟩ := red_ex l q
    rw [h] at h1 h2
    generalize red l q = r at h1 h2 h3 h4
    obtain ⟨r, m⟩ := r
    subst h1 h3
    rw [← tw_add, ← tw_add]
    congr 1
    omega
  · intro h
    have e1 := red_tw l k p
    have e2 := red_tw k l q
    rw [← e1, h, Nat.add_comm, e2]
theorem red_red (k : Nat) (p : Pt) : red (red k p).2 (red k p).1 = red k p := by
  obtain ⟨i, h1, h2⟩ := red_ex k p
  have := red_tw i (red k p).2 (red k p).1
  rw [← h1] at this
  rw [← this]
  congr 1
  omega
theorem red_of_fix {k : Nat} {p : Pt} (h : k = 0 ∨ p.ev = false) : red k p = (p, k) := by
  cases k with
  | zero => rfl
  | succ k => rw [red, if_neg]; rcases h with h | h <;> simp_all
end Pt
end Go.Proofs.YtepdnjjfhbjcjaaGreatDoor
end
section
namespace Go.Proofs.YtepdnjjfhbjcjaaGreatDoor
namespace Pt
def scale (n : Int) (p : Pt) : Pt := ⟨n * p.a, n * p.b, n * p.c, n * p.d⟩
theorem tw_even (i : Nat) (p : Pt) : tw (2 * i) p = p.scale (2 ^ i) := by
  induction i generalizing p with
  | zero => apply ext' <;> simp [tw, scale]
  | succ i ih =>
    rw [show 2 * (i + 1) = (2 * i + 1) + 1 from by omega]
    show tw (2 * i) p.twice.twice = _
    rw [ih]
    apply ext' <;> simp only [scale, twice, Int.pow_succ] <;> grind
theorem pow_mono {i n : Nat} (h : i ≤ n) : (2 : Int) ^ i ≤ (2 : Int) ^ n := by
  have h1 : 2 ^ i ≤ 2 ^ n := Nat.pow_le_pow_right (by decide) h
  have e : ∀ m : Nat, (2 : Int) ^ m = ((2 ^ m : Nat) : Int) := fun m => by rw [Int.natCast_pow]; rfl
  rw [e, e]
  omega
theorem pow_le30 {i : Nat} (h : i ≤ 30) : (2 : Int) ^ i ≤ 1073741824 ∧ 0 ≤ (2 : Int) ^ i := by
  refine ⟨?_, Int.le_of_lt (Int.pow_pos (by decide))⟩
  have : (2 : Int) ^ i ≤ 2 ^ 30 := pow_mono h
  simpa using this
theorem mul_bd {x y P Q : Int} (hx : -P ≤ x ∧ x ≤ P) (hy : -Q ≤ y ∧ y ≤ Q) : -(P * Q) ≤ x * y ∧ x * y ≤ P * Q := by
  have hP : 0 ≤ P := by omega
  have hQ : 0 ≤ Q := by omega
  have h1 : (x * y).natAbs ≤ P.natAbs * Q.natAbs := by
    rw [Int.natAbs_mul]
    exact Nat.mul_le_mul (by omega) (by omega)
  have h2 : ((P.natAbs * Q.natAbs : Nat) : Int) = P * Q := by
    rw [Int.natCast_mul, Int.natAbs_of_nonneg hP, Int.natAbs_of_nonneg hQ]
  omega
theorem tw_le {j : Nat} {p : Pt} (hp : p.le 1073741824) (hj : j ≤ 60) : (tw j p).le 1152921504606846976 := by
  obtain ⟨⟨a1, a2⟩, ⟨b1, b2⟩, ⟨c1, c2⟩, ⟨d1, d2⟩⟩ := hp
  by_cases he : j % 2 = 0
  · obtain ⟨i, rfl⟩ : ∃ i, j = 2 * i := ⟨j / 2, by omega⟩
    rw [tw_even]
    have hi := pow_le30 (i := i) (by omega)
    have hb : -1073741824 ≤ (2 : Int) ^ i ∧ (2 : Int) ^ i ≤ 1073741824 := ⟨by omega, hi.1⟩
    have q1 := mul_bd hb ⟨a1, a2⟩
    have q2 := mul_bd hb ⟨b1, b2⟩
    have q3 := mul_bd hb ⟨c1, c2⟩
    have q4 := mul_bd hb ⟨d1, d2⟩
    simp only [le, scale]
    omega
  · obtain ⟨i, rfl⟩ : ∃ i, j = 2 * i + 1 := ⟨j / 2, by omega⟩
    rw [tw_succ, tw_even]
    have hi : (2 : Int) ^ i ≤ 536870912 := by
      have : (2 : Int) ^ i ≤ 2 ^ 29 := pow_mono (by omega)
      simpa using this
    have hi0 : 0 ≤ (2 : Int) ^ i := Int.le_of_lt (Int.pow_pos (by decide))
    have hb : -536870912 ≤ (2 : Int) ^ i ∧ (2 : Int) ^ i ≤ 536870912 := ⟨by omega, hi⟩
    have q1 := mul_bd hb ⟨a1, a2⟩
    have q2 := mul_bd hb ⟨b1, b2⟩
    have q3 := mul_bd hb ⟨c1, c2⟩
    have q4 := mul_bd hb ⟨d1, d2⟩
    simp only [le, scale, twice]
    omega
theorem prods {P Q R : Int} {p q : Pt} (hp : p.le P) (hq : q.le Q) (hR : P * Q ≤ R) :
    ((-R ≤ p.a * q.a ∧ p.a * q.a ≤ R) ∧ (-R ≤ p.a * q.b ∧ p.a * q.b ≤ R) ∧ (-R ≤ p.a * q.c ∧ p.a * q.c ≤ R) ∧ (-R ≤ p.a * q.d ∧ p.a * q.d ≤ R)) ∧
    ((-R ≤ p.b * q.a ∧ p.b * q.a ≤ R) ∧ (-R ≤ p.b * q.b ∧ p.b * q.b ≤ R) ∧ (-R ≤ p.b * q.c ∧ p.b * q.c ≤ R) ∧ (-R ≤ p.b * q.d ∧ p.b * q.d ≤ R)) ∧
    ((-R ≤ p.c * q.a ∧ p.c * q.a ≤ R) ∧ (-R ≤ p.c * q.b ∧ p.c * q.b ≤ R) ∧ (-R ≤ p.c * q.c ∧ p.c * q.c ≤ R) ∧ (-R ≤ p.c * q.d ∧ p.c * q.d ≤ R)) ∧
    ((-R ≤ p.d * q.a ∧ p.d * q.a ≤ R) ∧ (-R ≤ p.d * q.b ∧ p.d * q.b ≤ R) ∧ (-R ≤ p.d * q.c ∧ p.d * q.c ≤ R) ∧ (-R ≤ p.d * q.d ∧ p.d * q.d ≤ R)) := by
  obtain ⟨a, b, c, d⟩ := hp
  obtain ⟨a', b', c', d'⟩ := hq
  have h : ∀ {x y : Int}, (-P ≤ x ∧ x ≤ P) → (-Q ≤ y ∧ y ≤ Q) → -R ≤ x * y ∧ x * y ≤ R := fun hx hy => by have := mul_bd hx hy; omega
  exact ⟨⟨h a a', h a b', h a c', h a d'⟩, ⟨h b a', h b b', h b c', h b d'⟩, ⟨h c a', h c b', h c c', h c d'⟩, ⟨h d a', h d b', h d c', h d d'⟩⟩
theorem mul_le {P Q : Int} {p q : Pt} (hp : p.le P) (hq : q.le Q) : (p.mul q).le (4 * (P * Q)) := by
  have := prods hp hq (Int.le_refl _)
  simp only [le, mul]
  omega
theorem pr {s t u v : Int} (h : s.natAbs + t.natAbs ≤ 2147483648) (hu : -1073741824 ≤ u ∧ u ≤ 1073741824) (hv : -1073741824 ≤ v ∧ v ≤ 1073741824) :
    -2305843009213693952 ≤ s * u + t * v ∧ s * u + t * v ≤ 2305843009213693952 := by
  have h1 : (s * u).natAbs ≤ s.natAbs * 1073741824 := by rw [Int.natAbs_mul]; exact Nat.mul_le_mul_left _ (by omega)
  have h2 : (t * v).natAbs ≤ t.natAbs * 1073741824 := by rw [Int.natAbs_mul]; exact Nat.mul_le_mul_left _ (by omega)
  omega
theorem sm_mul {p q : Pt} (hp : p.le 1073741824) (hq : q.le 1073741824) : (p.mul q).sm 4611686018427387904 := by
  obtain ⟨a, b, c, d⟩ := p
  obtain ⟨e, f, g, h⟩ := q
  obtain ⟨ha, hb, hc, hd⟩ := hp
  obtain ⟨he, hf, hg, hh⟩ := hq
  dsimp only at ha hb hc hd he hf hg hh
  have k1 := pr (s := a + c) (t := a - c) (by omega) he hg
  have k2 := pr (s := b - d) (t := -(b + d)) (by omega) hf hh
  have k3 := pr (s := a - c) (t := -(a + c)) (by omega) he hg
  have k4 := pr (s := -(b + d)) (t := d - b) (by omega) hf hh
  have k5 := pr (s := a + c) (t := a - c) (by omega) hf hh
  have k6 := pr (s := b + d) (t := b - d) (by omega) he hg
  have k7 := pr (s := a - c) (t := -(a + c)) (by omega) hf hh
  have k8 := pr (s := b - d) (t := -(b + d)) (by omega) he hg
  have e1 : (mul ⟨a, b, c, d⟩ ⟨e, f, g, h⟩).a + (mul ⟨a, b, c, d⟩ ⟨e, f, g, h⟩).c = ((a + c) * e + (a - c) * g) + ((b - d) * f + -(b + d) * h) := by simp only [mul]; grind
  have e2 : (mul ⟨a, b, c, d⟩ ⟨e, f, g, h⟩).a - (mul ⟨a, b, c, d⟩ ⟨e, f, g, h⟩).c = ((a - c) * e + -(a + c) * g) + (-(b + d) * f + (d - b) * h) := by simp only [mul]; grind
  have e3 : (mul ⟨a, b, c, d⟩ ⟨e, f, g, h⟩).b + (mul ⟨a, b, c, d⟩ ⟨e, f, g, h⟩).d = ((a + c) * f + (a - c) * h) + ((b + d) * e + (b - d) * g) := by simp only [mul]; grind
  have e4 : (mul ⟨a, b, c, d⟩ ⟨e, f, g, h⟩).b - (mul ⟨a, b, c, d⟩ ⟨e, f, g, h⟩).d = ((a - c) * f + -(a + c) * h) + ((b - d) * e + -(b + d) * g) := by simp only [mul]; grind
  unfold sm
  rw [e1, e2, e3, e4]
  omega
end Pt
end Go.Proofs.YtepdnjjfhbjcjaaGreatDoor
end
section
namespace Go.Proofs.YtepdnjjfhbjcjaaGreatDoor
namespace Pt
theorem msn (x : Int) : 0 ≤ x * x := by
  rcases Int.lt_or_le x 0 with h | h
  · rw [← Int.neg_mul_neg]; exact Int.mul_nonneg (by omega) (by omega)
  · exact Int.mul_nonneg h h
def sq (p : Pt) : Int := p.a * p.a + p.b * p.b + p.c * p.c + p.d * p.d
theorem sq_twice (p : Pt) : p.twice.sq = 2 * p.sq := by simp only [sq, twice]; grind
theorem sq_nonneg (p : Pt) : 0 ≤ p.sq := by
  have h1 := msn p.a; have h2 := msn p.b; have h3 := msn p.c; have h4 := msn p.d
  unfold sq; omega
theorem sq_tw (i : Nat) (p : Pt) : p.sq ≤ (tw i p).sq := by
  induction i generalizing p with
  | zero => exact Int.le_refl _
  | succ i ih =>
    have h := ih p.twice
    have h2 := sq_twice p
    have h3 := sq_nonneg p
    show p.sq ≤ (tw i p.twice).sq
    omega
theorem sq_zero {p : Pt} (h : p.sq = 0) : p = zero := by
  have h1 := msn p.a; have h2 := msn p.b; have h3 := msn p.c; have h4 := msn p.d
  unfold sq at h
  have z : ∀ x : Int, x * x = 0 → x = 0 := fun x hx => by rcases Int.mul_eq_zero.1 hx with h | h <;> exact h
  exact ext' (z _ (by omega)) (z _ (by omega)) (z _ (by omega)) (z _ (by omega))
theorem sq_of_le {p : Pt} (h : p.le 1073741824) : p.sq ≤ 4611686018427387904 := by
  obtain ⟨h1, h2, h3, h4⟩ := h
  have a := mul_bd h1 h1; have b := mul_bd h2 h2; have c := mul_bd h3 h3; have d := mul_bd h4 h4
  unfold sq; omega
theorem big_mul {x : Int} (h : ¬ (-4294967296 ≤ x ∧ x ≤ 4294967296)) : 18446744073709551616 < x * x := by
  rcases Int.lt_or_le x 0 with hx | hx
  · have : (4294967297 : Int) * 4294967297 ≤ (-x) * (-x) := Int.mul_le_mul (by omega) (by omega) (by omega) (by omega)
    rw [Int.neg_mul_neg] at this
    omega
  · have : (4294967297 : Int) * 4294967297 ≤ x * x := Int.mul_le_mul (by omega) (by omega) (by omega) (by omega)
    omega
theorem sq_big {p : Pt} (h : ¬ p.le 4294967296) : 18446744073709551616 < p.sq := by
  have h1 := msn p.a; have h2 := msn p.b; have h3 := msn p.c; have h4 := msn p.d
  unfold sq
  by_cases ha : -4294967296 ≤ p.a ∧ p.a ≤ 4294967296
  · by_cases hb : -4294967296 ≤ p.b ∧ p.b ≤ 4294967296
    · by_cases hc : -4294967296 ≤ p.c ∧ p.c ≤ 4294967296
      · by_cases hd : -4294967296 ≤ p.d ∧ p.d ≤ 4294967296
        · exact absurd ⟨ha, hb, hc, hd⟩ h
        · have := big_mul hd; omega
      · have := big_mul hc; omega
    · have := big_mul hb; omega
  · have := big_mul ha; omega
theorem not_le_tw (i : Nat) {p : Pt} (h : ¬ p.le 4294967296) : ¬ (tw i p).le 1073741824 := fun h2 => by
  have h3 := sq_of_le h2
  have h4 := sq_tw i p
  have h5 := sq_big h
  omega
def lz (k : Int) (p : Pt) : Pt × Nat := if k < 0 then (tw (-k).toNat p, 0) else red k.toNat p
end Pt
end Go.Proofs.YtepdnjjfhbjcjaaGreatDoor
end
section
namespace Go.Proofs.YtepdnjjfhbjcjaaGreatDoor
def twosF : Nat → Int → Nat
  | 0, _ => 0
  | n + 1, w => if w % 2 = 0 then twosF n (w / 2) + 1 else 0
def twos (w : Int) : Nat := twosF w.natAbs w
theorem pow_pos2 (i : Nat) : (0 : Int) < 2 ^ i := Int.pow_pos (by decide)
theorem twosF_eq (v : Int) (hv : v % 2 = 1) (i n : Nat) (hn : (v * 2 ^ i).natAbs ≤ n) : twosF n (v * 2 ^ i) = i := by
  induction i generalizing n with
  | zero =>
    rw [Int.pow_zero, Int.mul_one] at *
    match n with
    | 0 => omega
    | n + 1 => unfold twosF; rw [if_neg (by omega)]
  | succ i ih =>
    have e : v * 2 ^ (i + 1) = 2 * (v * 2 ^ i) := by rw [Int.pow_succ]; grind
    rw [e] at hn ⊢
    have hne : v * 2 ^ i ≠ 0 := fun h => by
      rcases Int.mul_eq_zero.1 h with h | h
      · omega
      · have := pow_pos2 i; omega
    clear e
    generalize v * 2 ^ i = z at *
    match n with
    | 0 => omega
    | n + 1 =>
      unfold twosF
      rw [if_pos (by omega), show 2 * z / 2 = z by omega, ih n (by omega)]
theorem twos_eq {w v : Int} {i : Nat} (hv : v % 2 = 1) (h : w = v * 2 ^ i) : twos w = i ∧ w / 2 ^ twos w = v := by
  have h1 : twos w = i := by unfold twos; rw [h]; exact twosF_eq v hv i _ (Nat.le_refl _)
  refine ⟨h1, ?_⟩
  rw [h1, h, Int.mul_ediv_cancel _ (by have := pow_pos2 i; omega)]
theorem pow_lim {w v : Int} {i n : Nat} (hv : v ≠ 0) (h : w = v * 2 ^ i) (hw : w.natAbs < 2 ^ n) : i < n := by
  have h1 : w.natAbs = v.natAbs * 2 ^ i := by rw [h, Int.natAbs_mul, Int.natAbs_pow]; rfl
  have h2 : 1 * 2 ^ i ≤ v.natAbs * 2 ^ i := Nat.mul_le_mul_right _ (by omega)
  exact (Nat.pow_lt_pow_iff_right (a := 2) (by decide)).1 (by omega)
theorem sqrt2 (m n : Nat) (h : m * m = 2 * (n * n)) : m = 0 := by
  induction m using Nat.strongRecOn generalizing n with
  | _ m ih =>
    rcases Nat.eq_zero_or_pos m with h0 | h0
    · exact h0
    have he : m % 2 = 0 := by
      rcases Nat.mod_two_eq_zero_or_one m with h1 | h1
      · exact h1
      · have : m * m % 2 = 1 := by rw [Nat.mul_mod, h1]
        omega
    obtain ⟨k, rfl⟩ : ∃ k, m = 2 * k := ⟨m / 2, by omega⟩
    have h2 : n * n = 2 * (k * k) := by grind
    have hlt : n < 2 * k := by
      rcases Nat.lt_or_ge n (2 * k) with h3 | h3
      · exact h3
      · have := Nat.mul_le_mul h3 h3; have : 0 < (2 * k) * (2 * k) := Nat.mul_pos h0 h0; omega
    have := ih n hlt k h2
    subst this
    have : k * k = 0 := by omega
    rcases Nat.mul_eq_zero.1 this with h | h <;> omega
theorem sqrt2i (m n : Int) (h : m * m = 2 * (n * n)) : m = 0 := by
  have h1 : m.natAbs * m.natAbs = 2 * (n.natAbs * n.natAbs) := by
    have e1 := Int.natAbs_mul_self (a := m)
    have e2 := Int.natAbs_mul_self (a := n)
    omega
  have := sqrt2 _ _ h1
  omega
namespace Pt
def nrm (p : Pt) : Pt := p.mul p.conj
def whole (p : Pt) : Int := (p.nrm.mul p.nrm.dot).a
theorem nrm_a (p : Pt) : p.nrm.a = p.sq := by simp only [nrm, mul, conj, sq]; grind
theorem nrm_real (p : Pt) : p.nrm.c = 0 ∧ p.nrm.d = -p.nrm.b := by constructor <;> simp only [nrm, mul, conj] <;> grind
theorem whole_eq (p : Pt) : p.whole = p.sq * p.sq - 2 * (p.nrm.b * p.nrm.b) := by
  obtain ⟨h1, h2⟩ := nrm_real p
  have h3 := nrm_a p
  simp only [whole, mul, dot, h1, h2, h3]
  grind
theorem whole_ne {p : Pt} (h : p ≠ zero) : p.whole ≠ 0 := fun h0 => by
  rw [whole_eq] at h0
  exact h (sq_zero (sqrt2i p.sq p.nrm.b (by omega)))
theorem le_conj {B : Int} {p : Pt} (h : p.le B) : p.conj.le B := by simp only [le, conj] at *; omega
theorem le_dot {B : Int} {p : Pt} (h : p.le B) : p.dot.le B := by simp only [le, dot] at *; omega
def quot (p q : Pt) : Pt := p.mul (q.conj.mul q.nrm.dot)
end Pt
end Go.Proofs.YtepdnjjfhbjcjaaGreatDoor
end
