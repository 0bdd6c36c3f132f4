import Derived.Lib.SplitLaws
import Derived.Lib.CountLaws
import Derived.Lib.IndexBytes
import Derived.Test.YtonnegkpjmhomaaGreatDoorDTold17
set_option linter.all false
section
namespace Go.Proofs.YtonnegkpjmhomaaGreatDoor
theorem indexByte_at (c : UInt8) (r : List UInt8) : ∀ (a : List UInt8), c ∉ a → Lib.indexByte (a ++ c :: r) c = a.length
  | [], _ => by
    show (if c == c then (0 : Int) else _) = 0
    rw [if_pos (beq_self_eq_true c)]
  | b :: a, h => by
    have h1 : c ∉ a := fun e => h (List.mem_cons_of_mem _ e)
    have h2 : ¬ (b == c) = true := fun e => h (by rw [beq_iff_eq.1 e]; exact List.mem_cons_self ..)
    show (if b == c then (0 : Int) else if Lib.indexByte (a ++ c :: r) c == -1 then -1 else Lib.indexByte (a ++ c :: r) c + 1) = _
    rw [if_neg h2, indexByte_at c r a h1, if_neg (by intro e; have := beq_iff_eq.1 e; omega), List.length_cons]
    omega
def linesOf (ls : List (List UInt8)) : List UInt8 := ls.flatMap (fun l => l ++ [10])
theorem indexB_at {a r : List UInt8} (h : (10 : UInt8) ∉ a) : Lib.indexB (bs (a ++ 10 :: r)) (bs [10]) = a.length := by
  show Lib.index (bs (a ++ 10 :: r)).data.toList (bs [10]).data.toList = _
  rw [bs_list, bs_list, Lib.index_one, indexByte_at 10 r a h]
theorem bs_tail (a r : List UInt8) (n : Nat) (h : n = a.length) : (bs (a ++ r)).extract n (bs (a ++ r)).size = bs r := by
  subst h
  apply ByteArray.ext
  rw [ByteArray.data_extract, bs_size]
  show (a ++ r).toArray.extract a.length (a ++ r).length = r.toArray
  rw [List.extract_toArray, List.extract_eq_take_drop, List.drop_left, List.take_of_length_le (by simp)]
theorem bs_head (a r : List UInt8) (n : Nat) (h : n = a.length) : (bs (a ++ r)).extract 0 n = bs a := by
  subst h
  apply ByteArray.ext
  rw [ByteArray.data_extract]
  show (a ++ r).toArray.extract 0 a.length = a.toArray
  rw [List.extract_toArray, List.extract_eq_take_drop, List.drop_zero, Nat.sub_zero, List.take_left]
theorem split_lines : ∀ (ls : List (List UInt8)), (∀ l ∈ ls, (10 : UInt8) ∉ l) → Lib.countB (bs (linesOf ls)) (bs [10]) = ls.length ∧ Lib.splitB (bs [10]) 0 ls.length (bs (linesOf ls)) = (ls ++ [[]]).map bs
  | [], _ => by
    refine ⟨Lib.countB_miss _ _ ?_, rfl⟩
    show Lib.index (bs []).data.toList (bs [10]).data.toList = _
    rw [bs_list, bs_list, Lib.index_one]
    rfl
  | l :: ls, h => by
    obtain ⟨h1, h2⟩ := split_lines ls (fun x hx => h x (List.mem_cons_of_mem _ hx))
    have e : linesOf (l :: ls) = l ++ 10 :: linesOf ls := by simp [linesOf]
    have hi := indexB_at (r := linesOf ls) (h l (List.mem_cons_self ..))
    have e2 : (bs (l ++ 10 :: linesOf ls)).extract (l.length + (bs [10]).size) (bs (l ++ 10 :: linesOf ls)).size = bs (linesOf ls) := by
      have e3 : l ++ 10 :: linesOf ls = (l ++ [10]) ++ linesOf ls := by simp
      rw [e3]
      exact bs_tail _ _ _ (by rw [bs_size]; simp)
    rw [e]
    refine ⟨?_, ?_⟩
    · rw [Lib.countB_hit _ _ l.length (by rw [bs_size]; exact Nat.le_refl _) hi, e2, h1, List.length_cons, Nat.add_comm]
    · rw [List.length_cons, Lib.splitB_hit _ _ _ _ l.length hi, e2, h2, bs_head _ _ _ (Nat.add_zero _)]
      rfl
def headLine (c : Ct) : List UInt8 := [119, 105, 114, 101, 115, 32] ++ itoa c.wires ++ (if 0 < c.bits then [32, 98, 105, 116, 115, 32] ++ itoa c.bits else []) ++ [59]
theorem printP_lines (c : Ct) : printP c = linesOf (headLine c :: c.gates.map shownP) := by
  unfold printP headLine linesOf
  rw [List.flatMap_cons, List.flatMap_map]
  simp
theorem no10_itoa {n : Int} (h0 : 0 ≤ n) (h9 : n ≤ 999) : (10 : UInt8) ∉ itoa n := by
  intro hm
  have ht := itoa_tok h0 h9
  generalize itoa n = t at ht hm
  cases ht with
  | num b t h _ _ => have := List.all_eq_true.1 h 10 hm; revert this; decide
theorem no10_word {k : Int} (h : 1 ≤ k ∧ k ≤ 14) : (10 : UInt8) ∉ wordK k := by
  intro hm
  have ht := (word_all h).1
  generalize wordK k = t at ht hm
  cases ht with
  | word b t h _ => have := List.all_eq_true.1 h 10 hm; revert this; decide
theorem no10_shown {g : Gt} (h : GOk g) : (10 : UInt8) ∉ shownP g := by
  unfold shownP
  intro hm
  simp only [List.mem_append] at hm
  rcases hm with (((hm | hm) | hm) | hm) | hm
  · split at hm
    · simp only [List.mem_append] at hm
      rcases hm with (hm | hm) | hm
      · revert hm; decide
      · exact no10_itoa (by omega) (by have := h.ifn; omega) hm
      · revert hm; decide
    · cases hm
  · exact no10_word h.kind hm
  · obtain ⟨z, hz, hm⟩ := List.mem_flatMap.1 hm
    rcases List.mem_cons.1 hm with hm | hm
    · revert hm; decide
    · exact no10_itoa (h.wires z hz).1 (h.wires z hz).2 hm
  · split at hm
    · rcases List.mem_cons.1 hm with hm | hm
      · revert hm; decide
      · exact no10_itoa h.bit.1 h.bit.2 hm
    · cases hm
  · revert hm; decide
theorem no10_head {c : Ct} (h : chkC c = 0) : (10 : UInt8) ∉ headLine c := by
  obtain ⟨h1, h2, _⟩ := chkC_ok h
  unfold headLine
  intro hm
  simp only [List.mem_append] at hm
  rcases hm with ((hm | hm) | hm) | hm
  · revert hm; decide
  · exact no10_itoa (by omega) (by omega) hm
  · split at hm
    · simp only [List.mem_append] at hm
      rcases hm with hm | hm
      · revert hm; decide
      · exact no10_itoa (by omega) (by omega) hm
    · cases hm
  · revert hm; decide
theorem print_split {c : Ct} (h : chkC c = 0) : Lib.countB (bs (printP c)) (bs [10]) = c.gates.length + 1 ∧ Lib.splitB (bs [10]) 0 (c.gates.length + 1) (bs (printP c)) = (headLine c :: c.gates.map shownP ++ [[]]).map bs := by
  have hs := split_lines (headLine c :: c.gates.map shownP) (by
    intro l hl
    rcases List.mem_cons.1 hl with rfl | hl
    · exact no10_head h
    · obtain ⟨g, hg, rfl⟩ := List.mem_map.1 hl
      exact no10_shown ((chkC_ok h).2.2.2 g hg))
  rw [← printP_lines, List.length_cons, List.length_map] at hs
  exact hs
theorem sShow_ok {W B : Int} {g : Gt} (hW : W ≤ 12) (hB : B ≤ 8) (h : chkG W B g = 0) : sShow g = (shownP g, 0) := by
  have hg := chkG_ok hW hB h
  unfold chkG at h
  split at h; · omega
  rename_i h1
  split at h; · omega
  rename_i h2
  split at h; · omega
  split at h; · omega
  split at h; · omega
  split at h; · omega
  rename_i h6
  unfold sShow
  rw [if_neg h1, if_neg h2, if_neg ?_, if_neg (by intro e; exact h6 (e.symm))]
  simp only [Bool.or_eq_true, not_or, decide_eq_true_eq, outR, List.any_eq_true, not_exists, not_and]
  have hb := hg.bit
  have hf := hg.ifn
  refine ⟨⟨⟨fun z hz => ?_, by omega⟩, by omega⟩, by omega⟩
  have := hg.wires z hz
  omega
end Go.Proofs.YtonnegkpjmhomaaGreatDoor
end
