import Derived.Test.YtlglmooknlmomaaDoorC10
import Derived.Test.YtlglmooknlmomaaDoorC8
set_option linter.all false
section
namespace Go.Proofs.YtlglmooknlmomaaDoor
open Go.Proofs.YtlglmooknlmomaaDoor.Nm
theorem textB_len {y : Nm} (hp : y.p.le 1073741824) (h0 : 0 ≤ y.k) (h1 : y.k ≤ 60) : (textB y).length ≤ 1000 := by
  have h2 := terms_len hp
  have h3 := itoa_len (c := y.k) (by omega)
  unfold textB
  by_cases e1 : termsN y.p 4 = []
  · rw [if_pos e1]; simp
  · rw [if_neg e1]
    by_cases e2 : y.k = 0
    · rw [if_pos e2]; omega
    · rw [if_neg e2]
      simp only [List.length_append, List.length_cons, List.length_nil]
      omega
theorem told_eq {s t : List UInt8} {z : Bool} (h : s = t ↔ z = true) : ((bs s).toList == (bs t).toList) = z := by
  have e : ∀ l : List UInt8, (bs l).toList = l := fun l => by rw [ByteArray.toList_eq]; simp [bs]
  rw [e, e, Bool.eq_iff_iff, beq_iff_eq]
  exact h
theorem told_plain {x y : Nm} (hx : x.chk = 0) (hy : y.chk = 0) :
    ∃ (s t : List UInt8) (z : Bool) (l : Nm), sPrint x = (s, 0) ∧ sPrint y = (t, 0) ∧ sSame x y = (z, 0) ∧ sLeast x = (l, 0) ∧ sParse s = (l, 0) ∧ s.length ≤ 1000 ∧ (s = t ↔ z = true) := by
  have hg : ∀ {u : Nm}, u.chk = 0 → good (nmOf (Pt.red u.k.toNat u.p)) := fun {u} h => by
    obtain ⟨h1, h2, h3⟩ := nmOf_red_ok h
    refine ⟨ok_chk h1 h2 h3, ?_⟩
    have c := cn_red u.k.toNat u.p
    unfold Cn at c
    rw [c]
    show (⟨_, (((Pt.red u.k.toNat u.p).2 : Int).toNat : Int)⟩ : Nm) = _
    rw [Int.toNat_natCast]
    rfl
  have hc : chks [x, y] = 0 := by simp only [chks]; rw [hx, hy]; rfl
  obtain ⟨h1, h2, h3⟩ := nmOf_red_ok hx
  refine ⟨textB (nmOf (Pt.red x.k.toNat x.p)), textB (nmOf (Pt.red y.k.toNat y.p)), eqNm (nmOf (Pt.red x.k.toNat x.p)) (nmOf (Pt.red y.k.toNat y.p)), nmOf (Pt.red x.k.toNat x.p), ?_, ?_, ?_, sLeast_ok hx, sParse_text (hg hx), textB_len h1 h2 h3, ?_⟩
  · unfold sPrint; rw [if_pos hx]
  · unfold sPrint; rw [if_pos hy]
  · unfold sSame; rw [if_pos hc, okN_red hx, okN_red hy]; rfl
  · rw [eqNm_true]
    constructor
    · intro h
      have e1 := sParse_text (hg hx)
      have e2 := sParse_text (hg hy)
      rw [h, e2] at e1
      exact (congrArg Prod.fst e1).symm
    · intro h; rw [h]
end Go.Proofs.YtlglmooknlmomaaDoor
end
