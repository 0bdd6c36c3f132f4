set_option linter.all false
section
namespace Go.Proofs.YtonnegkpjmhomaaGreatDoor
def bs (l : List UInt8) : ByteArray := ⟨l.toArray⟩
theorem bs_size (l : List UInt8) : (bs l).size = l.length := by show l.toArray.size = _; simp
theorem bs_append (a b : List UInt8) : bs a ++ bs b = bs (a ++ b) := by
  apply ByteArray.ext
  simp [bs]
theorem bs_list (l : List UInt8) : (bs l).data.toList = l := by simp [bs]
theorem bs_get (l : List UInt8) (i : Nat) (h : i < (bs l).size) : (bs l)[i]'h = l[i]'(by rw [bs_size] at h; exact h) := by simp [bs, ByteArray.getElem_eq_getElem_data]
def isL (b : UInt8) : Bool := decide (97 ≤ b.toNat) && decide (b.toNat ≤ 122)
def isD (b : UInt8) : Bool := decide (48 ≤ b.toNat) && decide (b.toNat ≤ 57)
def isS (b : UInt8) : Bool := b == 58 || b == 59
def isB (b : UInt8) : Bool := b == 32 || b == 10
def lay : Bool → List UInt8 → Nat
  | _, [] => 0
  | true, b :: l => 1 + lay (b != 10) l
  | false, b :: l => if isB b then 1 + lay false l else if b == 35 then 1 + lay true l else 0
theorem lay_le : ∀ (c : Bool) (l : List UInt8), lay c l ≤ l.length
  | _, [] => by simp [lay]
  | true, b :: l => by have := lay_le (b != 10) l; simp only [lay, List.length_cons]; omega
  | false, b :: l => by
    have h1 := lay_le false l
    have h2 := lay_le true l
    simp only [lay, List.length_cons]
    split
    · omega
    · split <;> omega
structure Part where
  at_ : Nat
  kind : Nat
  text : List UInt8
  wrong : Int
deriving DecidableEq
def nextP (at_ : Nat) : List UInt8 → Part
  | [] => ⟨at_, 0, [], at_⟩
  | c :: l =>
    if isL c then ⟨at_, 1, (c :: l).takeWhile isL, if 8 < ((c :: l).takeWhile isL).length then (at_ : Int) + 8 else -1⟩
    else if isD c then ⟨at_, 2, (c :: l).takeWhile isD, if c = 48 ∧ 1 < ((c :: l).takeWhile isD).length then (at_ : Int) + 1 else if 3 < ((c :: l).takeWhile isD).length then (at_ : Int) + 3 else -1⟩
    else if isS c then ⟨at_, c.toNat, [c], -1⟩
    else ⟨at_, 0, [c], at_⟩
theorem nextP_cons (i : Nat) (c : UInt8) (l : List UInt8) : nextP i (c :: l) =
    if isL c then ⟨i, 1, (c :: l).takeWhile isL, if 8 < ((c :: l).takeWhile isL).length then (i : Int) + 8 else -1⟩
    else if isD c then ⟨i, 2, (c :: l).takeWhile isD, if c = 48 ∧ 1 < ((c :: l).takeWhile isD).length then (i : Int) + 1 else if 3 < ((c :: l).takeWhile isD).length then (i : Int) + 3 else -1⟩
    else if isS c then ⟨i, c.toNat, [c], -1⟩
    else ⟨i, 0, [c], i⟩ := rfl
theorem nextP_at (i : Nat) (l : List UInt8) : (nextP i l).at_ = i := by
  cases l with
  | nil => rfl
  | cons c l => unfold nextP; repeat' split
                all_goals rfl
theorem takeWhile_ne {p : UInt8 → Bool} {c : UInt8} {l : List UInt8} (h : p c = true) : 0 < ((c :: l).takeWhile p).length := by
  rw [List.takeWhile_cons_of_pos h]; simp
theorem takeWhile_le (p : UInt8 → Bool) (l : List UInt8) : (l.takeWhile p).length ≤ l.length := (List.takeWhile_prefix _).length_le
theorem nextP_pos (i : Nat) (c : UInt8) (l : List UInt8) : 0 < (nextP i (c :: l)).text.length := by
  rw [nextP_cons]
  by_cases h1 : isL c = true
  · rw [if_pos h1]; exact takeWhile_ne h1
  · rw [if_neg h1]
    by_cases h2 : isD c = true
    · rw [if_pos h2]; exact takeWhile_ne h2
    · rw [if_neg h2]; split <;> simp
theorem nextP_le (i : Nat) (l : List UInt8) : (nextP i l).text.length ≤ l.length := by
  cases l with
  | nil => simp [nextP]
  | cons c l =>
    have h1 := takeWhile_le isL (c :: l)
    have h2 := takeWhile_le isD (c :: l)
    rw [nextP_cons]
    by_cases h3 : isL c = true
    · rw [if_pos h3]; exact h1
    · rw [if_neg h3]
      by_cases h4 : isD c = true
      · rw [if_pos h4]; exact h2
      · rw [if_neg h4]; split <;> simp
def partsN : Nat → Nat → List UInt8 → List Part
  | 0, _, _ => []
  | f + 1, i, l =>
    match l.drop (lay false l) with
    | [] => []
    | c :: r =>
      let p := nextP (i + lay false l) (c :: r)
      if p.kind = 0 then [p] else p :: partsN f (p.at_ + p.text.length) ((c :: r).drop p.text.length)
def partsP (l : List UInt8) : List Part := partsN (l.length + 1) 0 l
def wrongP : List Part → Int
  | [] => -1
  | p :: l => if 0 ≤ p.wrong then p.wrong else wrongP l
def sTokens (l : List UInt8) : List Part × Int × Int :=
  if 65536 < l.length then ([], 0, 11) else if 0 ≤ wrongP (partsP l) then ([], wrongP (partsP l), 4) else (partsP l, 0, 0)
theorem partsN_bd : ∀ (f i : Nat) (l : List UInt8) (p : Part), p ∈ partsN f i l → p.at_ ≤ i + l.length ∧ p.text.length ≤ l.length
  | 0, _, _, p, h => by cases h
  | f + 1, i, l, p, h => by
    unfold partsN at h
    have hd : (l.drop (lay false l)).length ≤ l.length := by simp
    have hd2 : (l.drop (lay false l)).length = l.length - lay false l := by simp
    split at h
    · cases h
    · rename_i c r hcr
      rw [hcr] at hd hd2
      have hl := lay_le false l
      have h1 := nextP_at (i + lay false l) (c :: r)
      have h2 := nextP_le (i + lay false l) (c :: r)
      simp only [] at h
      split at h
      · simp only [List.mem_singleton] at h
        subst h
        exact ⟨by omega, by omega⟩
      · simp only [List.mem_cons] at h
        rcases h with rfl | h
        · exact ⟨by omega, by omega⟩
        · have h3 := partsN_bd f _ _ p h
          rw [List.length_drop, h1] at h3
          exact ⟨by omega, by omega⟩
end Go.Proofs.YtonnegkpjmhomaaGreatDoor
end
