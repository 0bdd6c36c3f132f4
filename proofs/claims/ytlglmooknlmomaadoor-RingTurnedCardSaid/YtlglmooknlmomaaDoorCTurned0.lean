import Derived.Test.YtlglmooknlmomaaDoorC8
set_option linter.all false
section
namespace Go.Proofs.YtlglmooknlmomaaDoor
open Nm
structure Turn (T : Nm → Nm × Int) (t : Pt → Pt) : Prop where
  turn : ∀ {B : Int} {K : Nat} {x : Nm}, In B K x → B ≤ 1073741824 → K ≤ 60 → ∃ y, T x = (y, 0) ∧ In B K y ∧ Cn y ∧ ∀ N, K ≤ 2 * N → sv (2 * N) y = t (sv (2 * N) x)
  add : ∀ p q, t (p.add q) = (t p).add (t q)
  sub : ∀ p q, t (p.sub q) = (t p).sub (t q)
  mul : ∀ p q, t (p.mul q) = (t p).mul (t q)
  back : ∀ p, t (t p) = p
theorem turn_conj : Turn sConj Pt.conj :=
  ⟨fun h hB hK => by obtain ⟨y, e, i, c, s⟩ := conj_in h hB hK; exact ⟨y, e, i, c, fun N hN => s _ hN⟩, fun p q => by apply Pt.ext' <;> simp only [Pt.conj, Pt.add] <;> omega,
    fun p q => by apply Pt.ext' <;> simp only [Pt.conj, Pt.sub] <;> omega, fun p q => by apply Pt.ext' <;> simp only [Pt.conj, Pt.mul] <;> grind, fun p => by apply Pt.ext' <;> simp only [Pt.conj] <;> omega⟩
theorem turn_dot : Turn sDot Pt.dot :=
  ⟨fun h hB hK => by obtain ⟨y, e, i, c, s⟩ := dot_in h hB hK; exact ⟨y, e, i, c, fun N hN => s _ hN⟩, fun p q => by apply Pt.ext' <;> simp only [Pt.dot, Pt.add] <;> omega,
    fun p q => by apply Pt.ext' <;> simp only [Pt.dot, Pt.sub] <;> omega, fun p q => by apply Pt.ext' <;> simp only [Pt.dot, Pt.mul] <;> grind, fun p => by apply Pt.ext' <;> simp only [Pt.dot] <;> omega⟩
theorem turned_one {T : Nm → Nm × Int} {t : Pt → Pt} (h : Turn T t) {x y : Nm} (hx : In 60 8 x) (hy : In 60 8 y) :
    ∃ a b l s m d u v w : Nm, T x = (a, 0) ∧ T y = (b, 0) ∧ T a = (l, 0) ∧ sLeast x = (l, 0) ∧ sAdd x y = (s, 0) ∧ T s = (u, 0) ∧ sAdd a b = (u, 0) ∧ sMul x y = (m, 0) ∧ T m = (v, 0) ∧ sMul a b = (v, 0) ∧ sSub x y = (d, 0) ∧ T d = (w, 0) ∧ sSub a b = (w, 0) := by
  obtain ⟨a, ea, ia, ca, sa⟩ := h.turn hx (by decide) (by decide)
  obtain ⟨b, eb, ib, cb, sb⟩ := h.turn hy (by decide) (by decide)
  obtain ⟨l, el, il, cl, sl⟩ := h.turn ia (by decide) (by decide)
  obtain ⟨k, ek, ik, ck, sk⟩ := least_in hx (by decide) (by decide)
  obtain rfl : l = k := in_eq il ik cl ck (N := 2 * 4) (by decide) (by decide) (by rw [sl 4 (by decide), sa 4 (by decide), h.back, sk _ (by decide)])
  obtain ⟨s, es, is, cs, ss⟩ := add_in (D := 30720) (M := 8) hx hy (by decide) (by decide) (by decide) (by decide)
  obtain ⟨u, eu, iu, cu, su⟩ := h.turn is (by decide) (by decide)
  obtain ⟨u', eu', iu', cu', su'⟩ := add_in (D := 30720) (M := 8) ia ib (by decide) (by decide) (by decide) (by decide)
  obtain rfl : u = u' := in_eq iu iu' cu cu' (N := 2 * 4) (by decide) (by decide) (by rw [su 4 (by decide), su' _ (by decide), ss _ (by decide), h.add, sa 4 (by decide), sb 4 (by decide)])
  obtain ⟨m, em, im, cm, sm⟩ := mul_in (D := 14400) hx hy (by decide) (by decide) (by decide) (by decide) (by decide)
  obtain ⟨v, ev, iv, cv, sv1⟩ := h.turn im (by decide) (by decide)
  obtain ⟨v', ev', iv', cv', sv2⟩ := mul_in (D := 14400) ia ib (by decide) (by decide) (by decide) (by decide) (by decide)
  obtain rfl : v = v' := in_eq iv iv' cv cv' (N := 2 * 8) (by decide) (by decide) (by
    rw [sv1 8 (by decide)]
    show t (sv (8 + 8) m) = sv (8 + 8) v'
    rw [sm 8 8 (by decide) (by decide), sv2 8 8 (by decide) (by decide), h.mul, show sv 8 a = _ from sa 4 (by decide), show sv 8 b = _ from sb 4 (by decide)])
  obtain ⟨d, ed, id, cd, sd⟩ := sub_in (D := 30720) (M := 8) hx hy (by decide) (by decide) (by decide) (by decide)
  obtain ⟨w, ew, iw, cw, sw⟩ := h.turn id (by decide) (by decide)
  obtain ⟨w', ew', iw', cw', sw'⟩ := sub_in (D := 30720) (M := 8) ia ib (by decide) (by decide) (by decide) (by decide)
  obtain rfl : w = w' := in_eq iw iw' cw cw' (N := 2 * 4) (by decide) (by decide) (by rw [sw 4 (by decide), sw' _ (by decide), sd _ (by decide), h.sub, sa 4 (by decide), sb 4 (by decide)])
  exact ⟨a, b, l, s, m, d, u, v, w, ea, eb, el, ek, es, eu, eu', em, ev, ev', ed, ew, ew'⟩
theorem turned_two {x : Nm} (hx : In 60 8 x) : ∃ a b c : Nm, sConj x = (a, 0) ∧ sDot a = (b, 0) ∧ sDot x = (c, 0) ∧ sConj c = (b, 0) := by
  obtain ⟨a, ea, ia, ca, sa⟩ := conj_in hx (by decide) (by decide)
  obtain ⟨b, eb, ib, cb, sb⟩ := dot_in ia (by decide) (by decide)
  obtain ⟨c, ec, ic, cc, sc⟩ := dot_in hx (by decide) (by decide)
  obtain ⟨d, ed, id, cd, sd⟩ := conj_in ic (by decide) (by decide)
  obtain rfl : b = d := in_eq ib id cb cd (N := 2 * 4) (by decide) (by decide) (by
    rw [sb 4 (by decide), sd _ (by decide), sc 4 (by decide), sa _ (by decide)]
    apply Pt.ext' <;> simp only [Pt.conj, Pt.dot] <;> omega)
  exact ⟨a, b, c, ea, eb, ec, ed⟩
end Go.Proofs.YtlglmooknlmomaaDoor
end
