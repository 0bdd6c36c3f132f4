import Derived.Test.YtlglmooknlmomaaDoorC17
import Derived.Test.YtlglmooknlmomaaDoorC8
set_option linter.all false
section
namespace Go.Proofs.YtlglmooknlmomaaDoor
open Nm
theorem field_plain {x y z : Nm} (hx : In 60 8 x) (hy : In 60 8 y) (hz : In 9 3 z) :
    ∃ a c i j l m r q v : Nm, sAdd x y = (a, 0) ∧ sAdd y x = (a, 0) ∧ sMul x y = (c, 0) ∧ sMul y x = (c, 0) ∧ sAdd a z = (i, 0) ∧ sAdd y z = (j, 0) ∧ sAdd x j = (i, 0) ∧ sMul c z = (l, 0) ∧ sMul y z = (m, 0) ∧ sMul x m = (l, 0) ∧
      sMul a z = (q, 0) ∧ sMul x z = (r, 0) ∧ sAdd r m = (q, 0) ∧ sSum [r, m] = (q, 0) ∧ sSub a y = (v, 0) ∧ sLeast x = (v, 0) := by
  obtain ⟨a, ea, ia, ca, sa⟩ := add_in (D := 30720) (M := 8) hx hy (by decide) (by decide) (by decide) (by decide)
  obtain ⟨b, eb, ib, cb, sb⟩ := add_in (D := 30720) (M := 8) hy hx (by decide) (by decide) (by decide) (by decide)
  obtain rfl : a = b := in_eq ia ib ca cb (N := 8) (by decide) (by decide) (by rw [sa 8 (by decide), sb 8 (by decide), Pt.add_comm])
  obtain ⟨c, ec, ic, cc, sc⟩ := mul_in (D := 14400) hx hy (by decide) (by decide) (by decide) (by decide) (by decide)
  obtain ⟨d, ed, id, cd, sd⟩ := mul_in (D := 14400) hy hx (by decide) (by decide) (by decide) (by decide) (by decide)
  obtain rfl : c = d := in_eq ic id cc cd (N := 8 + 8) (by decide) (by decide) (by rw [sc 8 8 (by decide) (by decide), sd 8 8 (by decide) (by decide), Pt.mul_comm])
  obtain ⟨i, ei, ii, ci, si⟩ := add_in (D := 10000000) (M := 8) ia hz (by decide) (by decide) (by decide) (by decide)
  obtain ⟨j, ej, ij, cj, sj⟩ := add_in (D := 17664) (M := 8) hy hz (by decide) (by decide) (by decide) (by decide)
  obtain ⟨k, ek, ik, ck, sk⟩ := add_in (D := 10000000) (M := 8) hx ij (by decide) (by decide) (by decide) (by decide)
  obtain rfl : i = k := in_eq ii ik ci ck (N := 8) (by decide) (by decide) (by rw [si 8 (by decide), sk 8 (by decide), sa 8 (by decide), sj 8 (by decide), Pt.add_assoc])
  obtain ⟨l, el, il, cl, sl⟩ := mul_in (D := 518400) ic hz (by decide) (by decide) (by decide) (by decide) (by decide)
  obtain ⟨m, em, im, cm, sm⟩ := mul_in (D := 2160) hy hz (by decide) (by decide) (by decide) (by decide) (by decide)
  obtain ⟨o, eo, io, co, so⟩ := mul_in (D := 518400) hx im (by decide) (by decide) (by decide) (by decide) (by decide)
  obtain rfl : l = o := in_eq il io cl co (N := 8 + 8 + 3) (by decide) (by decide) (by
    rw [sl (8 + 8) 3 (by decide) (by decide), sc 8 8 (by decide) (by decide), show 8 + 8 + 3 = 8 + (8 + 3) from rfl, so 8 (8 + 3) (by decide) (by decide), sm 8 3 (by decide) (by decide), Pt.mul_assoc])
  obtain ⟨q, eq, iq, cq, sq⟩ := mul_in (D := 1105920) ia hz (by decide) (by decide) (by decide) (by decide) (by decide)
  obtain ⟨r, er, ir, cr, sr⟩ := mul_in (D := 2160) hx hz (by decide) (by decide) (by decide) (by decide) (by decide)
  obtain ⟨t, et, it, ct, st⟩ := add_in (D := 8847360) (M := 8 + 3) ir im (by decide) (by decide) (by decide) (by decide)
  obtain rfl : q = t := in_eq iq it cq ct (N := 8 + 3) (by decide) (by decide) (by
    rw [sq 8 3 (by decide) (by decide), sa 8 (by decide), st (8 + 3) (by decide), sr 8 3 (by decide) (by decide), sm 8 3 (by decide) (by decide), Pt.mul_comm, Pt.mul_add, Pt.mul_comm (sv 3 z), Pt.mul_comm (sv 3 z)])
  obtain ⟨v, ev, iv, cv, sv'⟩ := sub_in (D := 8000000) (M := 8) ia hy (by decide) (by decide) (by decide) (by decide)
  obtain ⟨u, eu, iu, cu, su⟩ := least_in hx (by decide) (by decide)
  obtain rfl : v = u := in_eq iv iu cv cu (N := 8) (by decide) (by decide) (by
    rw [sv' 8 (by decide), su 8 (by decide), sa 8 (by decide)]
    apply Pt.ext' <;> simp only [Pt.add, Pt.sub] <;> omega)
  have es : sSum [r, m] = (q, 0) := by
    have hc : chks [r, m] = 0 := chks_in ir im (by decide) (by decide) (by decide) (by decide)
    obtain ⟨f, ef, if_, cf, sf⟩ := add_in (D := 5000000) (M := 8 + 3) in_zero ir (by decide) (by decide) (by decide) (by decide)
    obtain rfl : f = r := in_eq if_ ir cf cr (N := 8 + 3) (by decide) (by decide) (by
      rw [sf (8 + 3) (by decide)]
      show (Pt.tw _ Pt.zero).add _ = _
      rw [Pt.tw_zero, Pt.zero_add])
    unfold sSum
    rw [if_pos hc]
    simp only [sumN]
    rw [ef, if_pos rfl, et, if_pos rfl]
  exact ⟨a, c, i, j, l, m, r, q, v, ea, eb, ec, ed, ei, ej, ek, el, em, eo, eq, er, et, es, ev, eu⟩
end Go.Proofs.YtlglmooknlmomaaDoor
end
