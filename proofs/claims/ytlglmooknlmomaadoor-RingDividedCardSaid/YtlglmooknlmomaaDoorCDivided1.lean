import Derived.Test.YtlglmooknlmomaaDoorC7
import Derived.Test.YtlglmooknlmomaaDoorC9
set_option linter.all false
section
namespace Go.Proofs.YtlglmooknlmomaaDoor
open Nm
namespace Pt
theorem mul_qd (q : Pt) : q.mul (q.conj.mul q.nrm.dot) = ⟨q.whole, 0, 0, 0⟩ := by
  rw [← mul_assoc]
  show q.nrm.mul q.nrm.dot = _
  obtain ⟨h1, h2⟩ := nrm_real q
  unfold whole
  generalize q.nrm = r at *
  obtain ⟨a, b, c, d⟩ := r
  dsimp only at h1 h2
  subst h1 h2
  apply ext' <;> simp only [mul, dot] <;> grind
theorem mul_int (p : Pt) (n : Int) : p.mul ⟨n, 0, 0, 0⟩ = p.scale n := by apply ext' <;> simp only [mul, scale] <;> grind
end Pt
end Go.Proofs.YtlglmooknlmomaaDoor
end
section
namespace Go.Proofs.YtlglmooknlmomaaDoor
open Nm
namespace Pt
theorem odd_two (w : Int) (h : w ≠ 0) : ∃ (v : Int) (i : Nat), v % 2 = 1 ∧ w = v * 2 ^ i := by
  generalize hn : w.natAbs = n
  induction n using Nat.strongRecOn generalizing w with
  | _ n ih =>
    by_cases h1 : w % 2 = 1
    · exact ⟨w, 0, h1, by simp⟩
    · obtain ⟨u, rfl⟩ : ∃ u, w = u * 2 := ⟨w / 2, by omega⟩
      obtain ⟨v, i, hv, hi⟩ := ih u.natAbs (by omega) u (by omega) rfl
      exact ⟨v, i + 1, hv, by rw [hi, Int.pow_succ, Int.mul_assoc]⟩
theorem scale_scale (m n : Int) (p : Pt) : (p.scale n).scale m = p.scale (m * n) := by apply ext' <;> simp only [scale] <;> rw [Int.mul_assoc]
theorem scale_mul (n : Int) (p q : Pt) : (p.scale n).mul q = (p.mul q).scale n := by apply ext' <;> simp only [scale, mul] <;> grind
theorem scale_inj {n : Int} (hn : n ≠ 0) {p q : Pt} (h : p.scale n = q.scale n) : p = q := by
  have e := ext_iff'.1 h
  simp only [scale] at e
  exact ext' (Int.eq_of_mul_eq_mul_left hn e.1) (Int.eq_of_mul_eq_mul_left hn e.2.1) (Int.eq_of_mul_eq_mul_left hn e.2.2.1) (Int.eq_of_mul_eq_mul_left hn e.2.2.2)
theorem twice_scale (n : Int) (p : Pt) : (p.scale n).twice = p.twice.scale n := by apply ext' <;> simp only [scale, twice] <;> grind
theorem tw_scale (j : Nat) (n : Int) (p : Pt) : tw j (p.scale n) = (tw j p).scale n := by
  induction j generalizing p with
  | zero => rfl
  | succ j ih => show tw j (p.scale n).twice = _; rw [twice_scale, ih]; rfl
theorem scale_two (i : Nat) (v : Int) (p : Pt) : p.scale (v * 2 ^ i) = (tw (2 * i) p).scale v := by rw [tw_even, scale_scale]
theorem dvd_pow_two {v c : Int} (hv : v % 2 = 1) : ∀ s : Nat, v ∣ 2 ^ s * c → v ∣ c
  | 0, h => by simpa using h
  | s + 1, h => by
    apply dvd_pow_two hv s
    rw [Int.pow_succ] at h
    obtain ⟨m, hm⟩ := h
    have e : 2 * (2 ^ s * c) = v * m := by rw [← hm, Int.mul_comm (2 ^ s) 2, Int.mul_assoc]
    have h2 : m % 2 = 0 := by
      have h3 : (v * m) % 2 = 0 := by rw [← e]; omega
      rw [Int.mul_emod, hv] at h3
      omega
    obtain ⟨k, rfl⟩ : ∃ k, m = 2 * k := ⟨m / 2, by omega⟩
    refine ⟨k, ?_⟩
    have : 2 * (2 ^ s * c) = 2 * (v * k) := by rw [e, ← Int.mul_assoc, Int.mul_comm v 2, Int.mul_assoc]
    omega
theorem scale_of_tw {v : Int} (hv : v % 2 = 1) {s : Nat} {o P : Pt} (h : tw s o = P.scale v) : o.a % v = 0 ∧ o.b % v = 0 ∧ o.c % v = 0 ∧ o.d % v = 0 := by
  have h2 : tw (2 * s) o = (tw s P).scale v := by rw [show 2 * s = s + s by omega, tw_add, h, tw_scale]
  rw [tw_even] at h2
  have e := ext_iff'.1 h2
  simp only [scale] at e
  exact ⟨Int.emod_eq_zero_of_dvd (dvd_pow_two hv s ⟨_, e.1⟩), Int.emod_eq_zero_of_dvd (dvd_pow_two hv s ⟨_, e.2.1⟩), Int.emod_eq_zero_of_dvd (dvd_pow_two hv s ⟨_, e.2.2.1⟩), Int.emod_eq_zero_of_dvd (dvd_pow_two hv s ⟨_, e.2.2.2⟩)⟩
theorem scale_div {v : Int} {o : Pt} (h : o.a % v = 0 ∧ o.b % v = 0 ∧ o.c % v = 0 ∧ o.d % v = 0) : scale v ⟨o.a / v, o.b / v, o.c / v, o.d / v⟩ = o := by
  obtain ⟨h1, h2, h3, h4⟩ := h
  apply ext' <;> simp only [scale]
  · exact Int.mul_ediv_cancel' (Int.dvd_of_emod_eq_zero h1)
  · exact Int.mul_ediv_cancel' (Int.dvd_of_emod_eq_zero h2)
  · exact Int.mul_ediv_cancel' (Int.dvd_of_emod_eq_zero h3)
  · exact Int.mul_ediv_cancel' (Int.dvd_of_emod_eq_zero h4)
theorem lz_red (k : Int) (p : Pt) : lz k p = red k.toNat (tw (-k).toNat p) := by
  unfold lz
  by_cases h : k < 0
  · rw [if_pos h, show k.toNat = 0 by omega]; rfl
  · rw [if_neg h, show (-k).toNat = 0 by omega]; rfl
end Pt
theorem divR_eq {a b : Pt × Nat} (ha : a.1.le 4096) (hb : b.1.le 4096) (h0 : b.1 ≠ Pt.zero) :
    ∃ (v : Int) (i : Nat), v % 2 = 1 ∧ b.1.whole = v * 2 ^ i ∧ divR a b = (if (Pt.quot a.1 b.1).a % v = 0 ∧ (Pt.quot a.1 b.1).b % v = 0 ∧ (Pt.quot a.1 b.1).c % v = 0 ∧ (Pt.quot a.1 b.1).d % v = 0 then
      okN (Pt.lz ((a.2 : Int) - b.2 + 2 * i) ⟨(Pt.quot a.1 b.1).a / v, (Pt.quot a.1 b.1).b / v, (Pt.quot a.1 b.1).c / v, (Pt.quot a.1 b.1).d / v⟩) else (Nm.zero, 6)) := by
  obtain ⟨v, i, hv, hi⟩ := Pt.odd_two b.1.whole (Pt.whole_ne h0)
  obtain ⟨e1, e2⟩ := twos_eq hv hi
  refine ⟨v, i, hv, hi, ?_⟩
  unfold divR
  rw [if_pos ⟨(wiB_iff _ _).2 ha, (wiB_iff _ _).2 hb⟩, if_neg h0, e2, e1]
  rfl
theorem divR_exact {a b : Pt × Nat} {x : Nm} {s t : Nat} (ha : a.1.le 4096) (hb : b.1.le 4096) (h0 : b.1 ≠ Pt.zero) (hx : 0 ≤ x.k) (h : Pt.tw s a.1 = Pt.tw t (x.p.mul b.1)) (hs : (a.2 : Int) - b.2 - x.k = (t : Int) - s) :
    divR a b = okN (Pt.red x.k.toNat x.p) := by
  obtain ⟨v, i, hv, hi, e⟩ := divR_eq ha hb h0
  have h1 : Pt.tw s (Pt.quot a.1 b.1) = (Pt.tw (t + 2 * i) x.p).scale v := by
    unfold Pt.quot
    rw [← Pt.tw_mul, h, Pt.tw_mul, Pt.mul_assoc, Pt.mul_qd, Pt.mul_int, hi, Pt.scale_two, Pt.tw_scale, Pt.tw_add]
  have hd := Pt.scale_of_tw hv h1
  rw [e, if_pos hd]
  have h2 := Pt.scale_div hd
  generalize (⟨(Pt.quot a.1 b.1).a / v, (Pt.quot a.1 b.1).b / v, (Pt.quot a.1 b.1).c / v, (Pt.quot a.1 b.1).d / v⟩ : Pt) = z at *
  rw [← h2, Pt.tw_scale] at h1
  have h3 := Pt.scale_inj (by omega) h1
  rw [Pt.lz_red]
  congr 1
  rw [Pt.red_eq]
  apply Pt.tw_inj (n := s)
  rw [← Pt.tw_add, ← Pt.tw_add, ← Pt.tw_add]
  rw [show s + x.k.toNat + (-((a.2 : Int) - b.2 + 2 * i)).toNat = (x.k.toNat + (-((a.2 : Int) - b.2 + 2 * i)).toNat) + s by omega, Pt.tw_add _ s, h3, ← Pt.tw_add]
  congr 1
  omega
theorem red_ne {y : Nm} (h : ¬ sv 6 y = Pt.zero) : (Pt.red y.k.toNat y.p).1 ≠ Pt.zero := by
  intro h2
  apply h
  obtain ⟨j, e1, e2⟩ := Pt.red_ex y.k.toNat y.p
  unfold sv
  rw [e1, h2, Pt.tw_zero, Pt.tw_zero]
theorem div_bd' {a v B : Int} (ha : -B ≤ a ∧ a ≤ B) (_ : v ≠ 0) : -B ≤ a / v ∧ a / v ≤ B := by
  have h1 : (a / v).natAbs ≤ a.natAbs := Int.natAbs_ediv_le_natAbs a v
  omega
theorem div_zero {x : Nm} (hx : In 12 6 x) {k : Int} (h0 : 0 ≤ k) (h1 : k < 9) : sDivide x ⟨Pt.zero, k⟩ = (Nm.zero, 6) := by
  have hz : In 0 8 ⟨Pt.zero, k⟩ := ⟨by show Pt.le 0 Pt.zero; simp [Pt.le, Pt.zero], h0, by show k ≤ 8; omega⟩
  unfold sDivide
  rw [if_pos (chks_in hx hz (by decide) (by decide) (by decide) (by decide))]
  have e : Pt.red (⟨Pt.zero, k⟩ : Nm).k.toNat (⟨Pt.zero, k⟩ : Nm).p = (Pt.zero, 0) := Pt.red_zero _
  rw [e]
  unfold divR
  rw [if_pos ⟨(wiB_iff _ _).2 (Pt.red_le _ _ (Pt.le_mono hx.le (by decide))), by decide⟩, if_pos rfl]
theorem div_exact {x y : Nm} (hx : In 12 6 x) (hy : In 12 6 y) (h0 : ¬ sv 6 y = Pt.zero) :
    ∃ a l : Nm, sMul x y = (a, 0) ∧ sLeast x = (l, 0) ∧ sDivide a y = (l, 0) := by
  obtain ⟨a, ea, ia, ca, sa⟩ := mul_in (D := 576) hx hy (by decide) (by decide) (by decide) (by decide) (by decide)
  obtain ⟨l, el, il, cl, sl⟩ := least_in hx (by decide) (by decide)
  refine ⟨a, l, ea, el, ?_⟩
  unfold sDivide
  rw [if_pos (chks_in ia hy (by decide) (by decide) (by decide) (by decide))]
  have ky := hy.kn
  have kx := hx.kn
  have ka := ia.kn
  have k0 := hx.k0
  obtain ⟨j, e1, e2⟩ := Pt.red_ex y.k.toNat y.p
  have hca : Pt.red a.k.toNat a.p = (a.p, a.k.toNat) := ca
  rw [divR_exact (x := x) (s := 12 - a.k.toNat) (t := (6 - x.k.toNat) + (6 - (Pt.red y.k.toNat y.p).2)) ?_ ?_ (red_ne h0) k0 ?_ ?_]
  · unfold sLeast at el
    rw [if_pos (hx.chk (by decide) (by decide))] at el
    exact el
  · rw [hca]; exact Pt.le_mono ia.le (by decide)
  · exact Pt.red_le _ _ (Pt.le_mono hy.le (by decide))
  · rw [hca]
    have h := sa 6 6 (by decide) (by decide)
    unfold sv at h
    show Pt.tw (12 - a.k.toNat) a.p = _
    rw [show (6 + 6 : Nat) = 12 from rfl] at h
    generalize Pt.red y.k.toNat y.p = r at *
    rw [h, e1, ← Pt.tw_add, Pt.tw_mul, Pt.mul_tw, ← Pt.tw_add]
    congr 1
    omega
  · rw [hca]
    show ((a.k.toNat : Nat) : Int) - _ - _ = _
    have := ia.k0
    have := hy.k0
    omega
theorem whole_bd {q : Pt} (hq : q.le 12) : q.whole.natAbs < 2 ^ 19 := by
  have hn : q.nrm.le 576 := Pt.le_mono (Pt.mul_le hq (Pt.le_conj hq)) (by decide)
  rw [Pt.whole_eq]
  have h1 := Pt.nrm_a q
  have h2 := hn.1
  rw [h1] at h2
  have h3 := Pt.msn q.nrm.b
  have h4 := Pt.sq_nonneg q
  have h6 : 2 * (q.nrm.b * q.nrm.b) ≤ q.sq * q.sq := by
    have h := Pt.nrm_neg q
    have e := Pt.whole_eq q
    have e4 : q.whole = (q.a * q.a - q.c * q.c + 2 * (q.b * q.d)) * (q.a * q.a - q.c * q.c + 2 * (q.b * q.d)) + (2 * (q.a * q.c) - q.b * q.b + q.d * q.d) * (2 * (q.a * q.c) - q.b * q.b + q.d * q.d) := by
      simp only [Pt.whole, Pt.nrm, Pt.mul, Pt.conj, Pt.dot]; grind
    have h5 := Pt.msn (q.a * q.a - q.c * q.c + 2 * (q.b * q.d))
    have h6 := Pt.msn (2 * (q.a * q.c) - q.b * q.b + q.d * q.d)
    omega
  have h5 : q.sq * q.sq ≤ 576 * 576 := Int.mul_le_mul h2.2 h2.2 h4 (by decide)
  omega
theorem div_back {x y : Nm} (hx : In 12 6 x) (hy : In 12 6 y) (h0 : ¬ sv 6 y = Pt.zero) :
    sDivide x y = (Nm.zero, 6) ∨ ∃ c l : Nm, sDivide x y = (c, 0) ∧ sLeast x = (l, 0) ∧ sMul c y = (l, 0) := by
  have hcx : chks [x, y] = 0 := chks_in hx hy (by decide) (by decide) (by decide) (by decide)
  obtain ⟨l, el, il, cl, sl⟩ := least_in hx (by decide) (by decide)
  have hp : (Pt.red x.k.toNat x.p).1.le 12 := Pt.red_le _ _ hx.le
  have hq : (Pt.red y.k.toNat y.p).1.le 12 := Pt.red_le _ _ hy.le
  obtain ⟨v, i, hv, hi, e⟩ := divR_eq (a := Pt.red x.k.toNat x.p) (b := Pt.red y.k.toNat y.p) (Pt.le_mono hp (by decide)) (Pt.le_mono hq (by decide)) (red_ne h0)
  unfold sDivide
  rw [if_pos hcx, e]
  by_cases hd : (Pt.quot (Pt.red x.k.toNat x.p).1 (Pt.red y.k.toNat y.p).1).a % v = 0 ∧ (Pt.quot (Pt.red x.k.toNat x.p).1 (Pt.red y.k.toNat y.p).1).b % v = 0 ∧ (Pt.quot (Pt.red x.k.toNat x.p).1 (Pt.red y.k.toNat y.p).1).c % v = 0 ∧ (Pt.quot (Pt.red x.k.toNat x.p).1 (Pt.red y.k.toNat y.p).1).d % v = 0
  · right
    rw [if_pos hd]
    have hs := Pt.scale_div hd
    have hob : (Pt.quot (Pt.red x.k.toNat x.p).1 (Pt.red y.k.toNat y.p).1).le 1327104 := by
      have hn : (Pt.red y.k.toNat y.p).1.nrm.le 576 := Pt.le_mono (Pt.mul_le hq (Pt.le_conj hq)) (by decide)
      exact Pt.le_mono (Pt.mul_le hp (Pt.mul_le (Pt.le_conj hq) (Pt.le_dot hn))) (by decide)
    have hv0 : v ≠ 0 := by omega
    have hzb : Pt.le 1327104 ⟨(Pt.quot (Pt.red x.k.toNat x.p).1 (Pt.red y.k.toNat y.p).1).a / v, (Pt.quot (Pt.red x.k.toNat x.p).1 (Pt.red y.k.toNat y.p).1).b / v, (Pt.quot (Pt.red x.k.toNat x.p).1 (Pt.red y.k.toNat y.p).1).c / v, (Pt.quot (Pt.red x.k.toNat x.p).1 (Pt.red y.k.toNat y.p).1).d / v⟩ :=
      ⟨div_bd' hob.1 hv0, div_bd' hob.2.1 hv0, div_bd' hob.2.2.1 hv0, div_bd' hob.2.2.2 hv0⟩
    generalize (⟨(Pt.quot (Pt.red x.k.toNat x.p).1 (Pt.red y.k.toNat y.p).1).a / v, (Pt.quot (Pt.red x.k.toNat x.p).1 (Pt.red y.k.toNat y.p).1).b / v, (Pt.quot (Pt.red x.k.toNat x.p).1 (Pt.red y.k.toNat y.p).1).c / v, (Pt.quot (Pt.red x.k.toNat x.p).1 (Pt.red y.k.toNat y.p).1).d / v⟩ : Pt) = z at *
    have hi18 : i < 19 := pow_lim (by omega) hi (whole_bd hq)
    have hzq : z.mul (Pt.red y.k.toNat y.p).1 = Pt.tw (2 * i) (Pt.red x.k.toNat x.p).1 := by
      apply Pt.scale_inj hv0
      rw [← Pt.scale_mul, hs, ← Pt.scale_two, ← hi]
      unfold Pt.quot
      rw [Pt.mul_assoc, Pt.mul_comm _ (Pt.red y.k.toNat y.p).1, Pt.mul_qd, Pt.mul_int]
    have kx := Pt.red_kle x.k.toNat x.p
    have ky := Pt.red_kle y.k.toNat y.p
    have kx1 := hx.kn
    have ky1 := hy.kn
    rw [Pt.lz_red]
    obtain ⟨ec, ic, cc⟩ := least_red (B := 84934656) (K := 42) (k := (((Pt.red x.k.toNat x.p).2 : Int) - (Pt.red y.k.toNat y.p).2 + 2 * i).toNat) (p := Pt.tw (-(((Pt.red x.k.toNat x.p).2 : Int) - (Pt.red y.k.toNat y.p).2 + 2 * i)).toNat z)
      (Pt.le_mono (Pt.le_tw2 (K := 6) hzb (by omega)) (by decide)) (by decide) (by omega) (by decide)
    refine ⟨_, l, ec, el, ?_⟩
    have hc : chks [nmOf (Pt.red (((Pt.red x.k.toNat x.p).2 : Int) - (Pt.red y.k.toNat y.p).2 + 2 * i).toNat (Pt.tw (-(((Pt.red x.k.toNat x.p).2 : Int) - (Pt.red y.k.toNat y.p).2 + 2 * i)).toNat z)), y] = 0 := chks_in ic hy (by decide) (by decide) (by decide) (by decide)
    unfold sMul
    rw [if_pos hc]
    unfold sLeast at el
    rw [if_pos (hx.chk (by decide) (by decide))] at el
    rw [← el]
    congr 1
    rw [Pt.red_eq]
    obtain ⟨j, e1, e2⟩ := Pt.red_ex (((Pt.red x.k.toNat x.p).2 : Int) - (Pt.red y.k.toNat y.p).2 + 2 * i).toNat (Pt.tw (-(((Pt.red x.k.toNat x.p).2 : Int) - (Pt.red y.k.toNat y.p).2 + 2 * i)).toNat z)
    obtain ⟨jx, e3, e4⟩ := Pt.red_ex x.k.toNat x.p
    obtain ⟨jy, e5, e6⟩ := Pt.red_ex y.k.toNat y.p
    generalize Pt.red (((Pt.red x.k.toNat x.p).2 : Int) - (Pt.red y.k.toNat y.p).2 + 2 * i).toNat (Pt.tw (-(((Pt.red x.k.toNat x.p).2 : Int) - (Pt.red y.k.toNat y.p).2 + 2 * i)).toNat z) = rc at *
    generalize Pt.red x.k.toNat x.p = rx at *
    generalize Pt.red y.k.toNat y.p = ry at *
    apply Pt.tw_inj (n := j)
    show Pt.tw j (Pt.tw x.k.toNat (rc.1.mul y.p)) = Pt.tw j (Pt.tw ((rc.2 : Int).toNat + y.k.toNat) x.p)
    rw [← Pt.tw_add, Nat.add_comm, Pt.tw_add, ← Pt.tw_mul, ← e1, Pt.tw_mul, e5, Pt.mul_tw, hzq, e3, ← Pt.tw_add, ← Pt.tw_add, ← Pt.tw_add, ← Pt.tw_add, ← Pt.tw_add]
    congr 1
    have hyk := hy.k0
    have hxk := hx.k0
    rw [Int.toNat_natCast]
    omega
  · left
    rw [if_neg hd]
theorem divided_plain {x y : Nm} (hx : In 12 6 x) (hy : In 12 6 y) :
    ∃ a l : Nm, sMul x y = (a, 0) ∧ sLeast x = (l, 0) ∧ (∀ k : Int, 0 ≤ k → k < 9 → sDivide x ⟨⟨0, 0, 0, 0⟩, k⟩ = (⟨⟨0, 0, 0, 0⟩, 0⟩, 6)) ∧
      ((sSame y Nm.zero = (true, 0) ∧ sDivide x y = (⟨⟨0, 0, 0, 0⟩, 0⟩, 6)) ∨ (sSame y Nm.zero = (false, 0) ∧ sDivide a y = (l, 0) ∧ (sDivide x y = (⟨⟨0, 0, 0, 0⟩, 0⟩, 6) ∨ ∃ c : Nm, sDivide x y = (c, 0) ∧ sMul c y = (l, 0)))) := by
  obtain ⟨z, ez, hz⟩ := same_in hy in_zero (by decide) (by decide) (by decide) (by decide)
  have hz6 := hz 6 (by decide) (by decide)
  rw [zero_sv] at hz6
  have hd : ∀ k : Int, 0 ≤ k → k < 9 → sDivide x ⟨⟨0, 0, 0, 0⟩, k⟩ = (⟨⟨0, 0, 0, 0⟩, 0⟩, 6) := fun k h0 h1 => div_zero hx h0 h1
  by_cases h0 : sv 6 y = Pt.zero
  · obtain ⟨a, ea, ia, ca, sa⟩ := mul_in (D := 576) hx hy (by decide) (by decide) (by decide) (by decide) (by decide)
    obtain ⟨l, el, il, cl, sl⟩ := least_in hx (by decide) (by decide)
    refine ⟨a, l, ea, el, hd, .inl ⟨by rw [ez, hz6.2 h0], ?_⟩⟩
    have hp : y.p = Pt.zero := by
      unfold sv at h0
      apply Pt.tw_inj (n := 6 - y.k.toNat)
      rw [h0, Pt.tw_zero]
    have k0 := hy.k0
    have k1 := hy.k1
    obtain ⟨p, k⟩ := y
    dsimp only at hp k0 k1
    subst hp
    exact div_zero hx k0 (by omega)
  · have hzf : z = false := by
      cases z with
      | false => rfl
      | true => exact absurd (hz6.1 rfl) h0
    obtain ⟨a, l, ea, el, ed⟩ := div_exact hx hy h0
    refine ⟨a, l, ea, el, hd, .inr ⟨by rw [ez, hzf], ed, ?_⟩⟩
    rcases div_back hx hy h0 with h | ⟨c, l', hc, hl, hm⟩
    · exact .inl h
    · rw [el] at hl
      injection hl with hl _
      subst hl
      exact .inr ⟨c, hc, hm⟩
end Go.Proofs.YtlglmooknlmomaaDoor
end
