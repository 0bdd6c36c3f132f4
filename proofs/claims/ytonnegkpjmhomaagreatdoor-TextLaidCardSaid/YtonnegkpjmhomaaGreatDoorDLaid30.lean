import Derived.Test.YtonnegkpjmhomaaGreatDoorDLaid18
set_option linter.all false
section
namespace Go.Proofs.YtonnegkpjmhomaaGreatDoor
section
variable {ps : List Part} {n i0 m : Nat}
def Pre (ps : List Part) (i0 m : Nat) (ts : List (List UInt8)) (s : St) : Prop :=
  s.wrong = m ∨ (s.wrong = -1 ∧ ∃ pre post, ts = pre ++ post ∧ post ≠ [] ∧ s.i + pre.length = i0 ∧ Seg ps s.i pre)
theorem Pre.nil {s : St} (h : Pre ps i0 m [] s) : s.wrong = m := by
  rcases h with h | ⟨_, pre, post, e, hne, _⟩
  · exact h
  · have := congrArg List.length e
    simp only [List.length_nil, List.length_append] at this
    exact absurd (List.length_eq_zero_iff.1 (by omega)) hne
theorem Pre.done {ts : List (List UInt8)} {s : St} (h : s.wrong = m) : Pre ps i0 m ts s := .inl h
theorem Pre.stop {ts : List (List UInt8)} {s : St} (h : s.wrong = m ∨ (s.wrong = -1 ∧ s.i = i0)) (hne : ts ≠ []) : Pre ps i0 m ts s := by
  rcases h with h | ⟨h1, h2⟩
  · exact .inl h
  · exact .inr ⟨h1, [], ts, rfl, hne, by simpa using h2, trivial⟩
end
section
variable {ps : List Part} {n i0 m : Nat}
end
end Go.Proofs.YtonnegkpjmhomaaGreatDoor
end
