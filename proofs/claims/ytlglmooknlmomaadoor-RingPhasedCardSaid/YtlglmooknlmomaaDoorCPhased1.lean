import Derived.Test.YtlglmooknlmomaaDoorC9
set_option linter.all false
section
namespace Go.Proofs.YtlglmooknlmomaaDoor
open Nm
namespace Pt
theorem mul_qd (q : Pt) : q.mul (q.conj.mul q.nrm.dot) = ⟨q.whole, 0, 0, 0⟩ := by
  rw [← mul_assoc]
  show q.nrm.mul q.nrm.dot = _
  obtain ⟨h1, h2⟩ := nrm_real q
  unfold whole
  generalize q.nrm = r at *
  obtain ⟨a, b, c, d⟩ := r
  dsimp only at h1 h2
  subst h1 h2
  apply ext' <;> simp only [mul, dot] <;> grind
theorem mul_int (p : Pt) (n : Int) : p.mul ⟨n, 0, 0, 0⟩ = p.scale n := by apply ext' <;> simp only [mul, scale] <;> grind
theorem quot_mul (p q : Pt) : quot (p.mul q) q = p.scale q.whole := by
  unfold quot
  rw [mul_assoc, mul_qd, mul_int]
theorem mul_zero_of {p s : Pt} (h : p.mul s = zero) (hp : p ≠ zero) : s = zero := by
  have h1 : quot (s.mul p) p = s.scale p.whole := quot_mul s p
  rw [mul_comm s p, h] at h1
  have h2 : quot zero p = zero := by unfold quot; exact zero_mul _
  rw [h2] at h1
  have hw := whole_ne hp
  have e := ext_iff'.1 h1
  simp only [zero, scale] at e
  obtain ⟨e1, e2, e3, e4⟩ := e
  have f : ∀ x : Int, 0 = p.whole * x → x = 0 := fun x hx => by
    rcases Int.mul_eq_zero.1 hx.symm with h | h
    · exact absurd h hw
    · exact h
  apply ext' <;> simp only [zero]
  · exact f _ e1
  · exact f _ e2
  · exact f _ e3
  · exact f _ e4
theorem mul_cancel {p q r : Pt} (h : p.mul q = p.mul r) (hp : p ≠ zero) : q = r := by
  have h1 : p.mul (q.sub r) = zero := by
    have e : p.mul (q.sub r) = (p.mul q).sub (p.mul r) := by apply ext' <;> simp only [mul, sub] <;> grind
    rw [e, h]
    apply ext' <;> simp [sub, zero]
  have h2 := ext_iff'.1 (mul_zero_of h1 hp)
  simp only [sub, zero] at h2
  apply ext' <;> omega
theorem om_inj : ∀ i j : Fin 8, omP i.val = omP j.val → i = j := by decide
end Pt
theorem hit_iff {B C : Int} {K L N : Nat} {x z : Nm} (hx : In B K x) (hz : In C L z) (hB : B ≤ 1073741824) (hK : K ≤ 60) (hC : 4 * (1 * C) ≤ 1073741824) (hL : L ≤ 60) (hKN : K ≤ N) (hLN : L ≤ N) (j : Fin 8) :
    phHit (nmOf (Pt.red x.k.toNat x.p)) (nmOf (Pt.red z.k.toNat z.p)) j = true ↔ (omP j.val).mul (sv N z) = sv N x := by
  obtain ⟨u, eu, iu, cu, su⟩ := least_in hx hB hK
  obtain ⟨v, ev, iv, cv, sv'⟩ := least_in hz (by omega) hL
  have e1 : nmOf (Pt.red x.k.toNat x.p) = u := by
    unfold sLeast at eu; rw [if_pos (hx.chk hB hK), okN_red (hx.chk hB hK)] at eu; exact congrArg Prod.fst eu
  have e2 : nmOf (Pt.red z.k.toNat z.p) = v := by
    have hc := hz.chk (B := C) (by omega) hL
    unfold sLeast at ev; rw [if_pos hc, okN_red hc] at ev; exact congrArg Prod.fst ev
  rw [e1, e2]
  obtain ⟨m, em, im, cm, sm⟩ := mul_in (D := 4 * (1 * C)) (omega_in j) iv (by decide) (by omega) (Int.le_refl _) hC (by omega)
  unfold phHit
  rw [em]
  show eqNm m u = true ↔ _
  rw [eqNm_true]
  have h1 : sv (0 + N) m = (omP j.val).mul (sv N z) := by rw [sm 0 N (by omega) hLN, sv' N hLN]; rfl
  have h2 : sv (0 + N) u = sv N x := by rw [Nat.zero_add]; exact su N hKN
  constructor
  · intro h; rw [← h1, ← h2, h]
  · intro h; exact in_eq im iu cm cu (N := 0 + N) (by omega) (by omega) (by rw [h1, h2, h])
theorem phase_any {B C : Int} {K L N : Nat} {x z : Nm} (hx : In B K x) (hz : In C L z) (hB : B ≤ 1073741824) (hK : K ≤ 60) (hC : 4 * (1 * C) ≤ 1073741824) (hL : L ≤ 60) (hKN : K ≤ N) (hLN : L ≤ N) :
    sPhase x z = (0, 6) ∨ ∃ j : Fin 8, sPhase x z = ((j.val : Int), 0) ∧ (omP j.val).mul (sv N z) = sv N x := by
  have c0 := Pt.le_b0 hz.le
  have hc : chks [x, z] = 0 := chks_in hx hz hB hK (by omega) hL
  unfold sPhase
  rw [if_pos hc]
  unfold phR
  cases h : (upto8 8).find? (phHit (nmOf (Pt.red x.k.toNat x.p)) (nmOf (Pt.red z.k.toNat z.p))) with
  | none => exact .inl rfl
  | some j => exact .inr ⟨j, rfl, (hit_iff hx hz hB hK hC hL hKN hLN j).1 (List.find?_some h)⟩
theorem find_dec : ∀ i : Fin 8, (upto8 8).find? (fun j => decide (j = i)) = some i := by decide
theorem find_first {f : Fin 8 → Bool} (h : f 0 = true) : (upto8 8).find? f = some 0 := by
  rw [show upto8 8 = 0 :: [1, 2, 3, 4, 5, 6, 7] from by decide, List.find?_cons, h]
theorem phase_mul {x : Nm} (hx : In 60 8 x) (i : Fin 8) :
    ∃ (a : Nm) (k : Int) (z : Bool), sMul x ⟨omP i.val, 0⟩ = (a, 0) ∧ sPhase a x = (k, 0) ∧ sSame x Nm.zero = (z, 0) ∧ (z = false ∧ k = (i.val : Int) ∨ z = true ∧ k = 0) := by
  obtain ⟨a, ea, ia, ca, sa⟩ := mul_in (D := 240) hx (omega_in i) (by decide) (by decide) (by decide) (by decide) (by decide)
  obtain ⟨z, ez, hz⟩ := same_in hx in_zero (by decide) (by decide) (by decide) (by decide)
  have hsa : sv 8 a = (sv 8 x).mul (omP i.val) := sa 8 0 (by decide) (by decide)
  have hh := fun j => hit_iff (N := 8) ia hx (by decide) (by decide) (by decide) (by decide) (by decide) (by decide) j
  have hc : chks [a, x] = 0 := chks_in ia hx (by decide) (by decide) (by decide) (by decide)
  have hz8 := hz 8 (by decide) (by decide)
  rw [zero_sv] at hz8
  by_cases h0 : sv 8 x = Pt.zero
  · refine ⟨a, 0, true, ea, ?_, by rw [ez, hz8.2 h0], .inr ⟨rfl, rfl⟩⟩
    unfold sPhase
    rw [if_pos hc]
    unfold phR
    have h1 := (hh 0).2 (by rw [hsa, h0, Pt.mul_comm, Pt.zero_mul, Pt.zero_mul])
    rw [find_first h1]
    rfl
  · have hzf : z = false := by
      cases z with
      | false => rfl
      | true => exact absurd (hz8.1 rfl) h0
    refine ⟨a, i.val, false, ea, ?_, by rw [ez, hzf], .inl ⟨rfl, rfl⟩⟩
    unfold sPhase
    rw [if_pos hc]
    unfold phR
    have hf : phHit (nmOf (Pt.red a.k.toNat a.p)) (nmOf (Pt.red x.k.toNat x.p)) = fun j => decide (j = i) := by
      funext j
      rw [Bool.eq_iff_iff, hh j, decide_eq_true_eq, hsa]
      constructor
      · intro h
        rw [Pt.mul_comm] at h
        exact Pt.om_inj j i (Pt.mul_cancel h h0)
      · rintro rfl; rw [Pt.mul_comm]
    rw [hf, find_dec]
theorem phased2 {y z : Nm} (hy : In 2 2 y) (hz : In 2 2 z) :
    ∃ p q : Nm, sNorm y = (p, 0) ∧ sNorm z = (q, 0) ∧ (sPhase y z = (0, 6) ∨ ∃ (j : Fin 8) (b : Nm), sPhase y z = ((j.val : Int), 0) ∧ sMul z ⟨omP j.val, 0⟩ = (b, 0) ∧ sSame b y = (true, 0) ∧ p = q) := by
  obtain ⟨p, ep, ip, cp, sp⟩ := norm_in (D := 16) hy (by decide) (by decide) (by decide) (by decide)
  obtain ⟨q, eq, iq, cq, sq⟩ := norm_in (D := 16) hz (by decide) (by decide) (by decide) (by decide)
  refine ⟨p, q, ep, eq, ?_⟩
  rcases phase_any (N := 2) hy hz (by decide) (by decide) (by decide) (by decide) (by decide) (by decide) with h | ⟨j, h, hj⟩
  · exact .inl h
  · obtain ⟨b, eb, ib, cb, sb⟩ := mul_in (D := 8) hz (omega_in j) (by decide) (by decide) (by decide) (by decide) (by decide)
    obtain ⟨s, es, hs⟩ := same_in ib hy (by decide) (by decide) (by decide) (by decide)
    have hsb : sv 2 b = (sv 2 z).mul (omP j.val) := sb 2 0 (by decide) (by decide)
    have e1 : s = true := (hs 2 (by decide) (by decide)).2 (by rw [hsb, Pt.mul_comm, hj])
    refine .inr ⟨j, b, h, eb, by rw [es, e1], ?_⟩
    refine in_eq ip iq cp cq (N := 2 + 2) (by decide) (by decide) ?_
    rw [sp 2 (by decide), sq 2 (by decide), ← hj, Pt.conj_mul]
    generalize sv 2 z = u
    have e := om_norm j
    generalize omP j.val = o at *
    rw [Pt.mul_comm o u, Pt.mul_assoc, ← Pt.mul_assoc o, e, Pt.one_mul]
theorem phase_guard {z : Bool} {k : Int} {i : Fin 8} (h : z = false ∧ k = (i.val : Int) ∨ z = true ∧ k = 0) : (k != (i.val : Int)) = false ∨ ((0 : Int) != (i.val : Int)) = true ∧ z = true ∧ k = 0 := by
  rcases h with ⟨h1, h2⟩ | ⟨h1, h2⟩
  · exact .inl (by rw [h2]; simp)
  · by_cases hi : (i.val : Int) = 0
    · exact .inl (by rw [h2, hi]; rfl)
    · exact .inr ⟨by simp only [bne_iff_ne, ne_eq]; omega, h1, h2⟩
end Go.Proofs.YtlglmooknlmomaaDoor
end
