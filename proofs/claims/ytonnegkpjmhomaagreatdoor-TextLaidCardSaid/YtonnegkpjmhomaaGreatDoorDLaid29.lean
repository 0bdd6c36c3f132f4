import Derived.Test.YtonnegkpjmhomaaGreatDoorDLaid11
import Derived.Test.YtonnegkpjmhomaaGreatDoorDLaid26
import Derived.Test.YtonnegkpjmhomaaGreatDoorDLaid28
set_option linter.all false
section
set_option linter.all false
namespace Go.Proofs.YtonnegkpjmhomaaGreatDoor
open Go.RowKit
theorem LaidOk.tok : ∀ {l : List (List UInt8 × List UInt8)} {k : Nat}, LaidOk k l → ∀ t ∈ l.map (·.2), ∃ c, Tok c t
  | [], _, _ => by intro t h; cases h
  | (g, x) :: l, k, h => by
    intro t ht
    rw [List.map_cons, List.mem_cons] at ht
    rcases ht with rfl | ht
    · exact h.2.1
    · exact LaidOk.tok h.2.2.2 t ht
theorem toksAll_tok {c : Ct} (b : Bool) (h : chkC c = 0) : ∀ t ∈ toksAll c b, ∃ k, Tok k t := by
  intro t ht
  obtain ⟨h1, h2, h3, h4⟩ := chkC_ok h
  unfold toksAll at ht
  rw [List.mem_append] at ht
  rcases ht with ht | ht
  · unfold toksH at ht
    simp only [List.mem_append, List.mem_cons, List.not_mem_nil, or_false] at ht
    rcases ht with (rfl | rfl) | ht | rfl
    · exact ⟨1, .word 119 [105, 114, 101, 115] (by decide) (by decide)⟩
    · exact ⟨2, itoa_tok (by omega) (by omega)⟩
    · split at ht
      · simp only [List.mem_cons, List.not_mem_nil, or_false] at ht
        rcases ht with rfl | rfl
        · exact ⟨1, .word 98 [105, 116, 115] (by decide) (by decide)⟩
        · exact ⟨2, itoa_tok (by omega) (by omega)⟩
      · cases ht
    · exact ⟨3, tok_semi⟩
  · rw [List.mem_flatMap] at ht
    obtain ⟨g, hg, ht⟩ := ht
    have hl := RestOk.line (h4 g hg) RestOk.nil 0
    refine LaidOk.tok hl t ?_
    rw [List.append_nil, lineL_toks]
    exact ht
theorem toksAll_len {c : Ct} (b : Bool) (h : chkC c = 0) (hg : c.gates.length ≤ 12) : (toksAll c b).length ≤ 113 := by
  obtain ⟨_, _, _, h4⟩ := chkC_ok h
  unfold toksAll
  rw [List.length_append]
  have := (toksH_len c b).1
  have := toks_len_le h4
  omega
end Go.Proofs.YtonnegkpjmhomaaGreatDoor
end
