import Derived.Test.YtonnegkpjmhomaaGreatDoorDLaid1
set_option linter.all false
section
namespace Go.Proofs.YtonnegkpjmhomaaGreatDoor
def Closed (g : List UInt8) : Prop := ∀ r, lay false (g ++ r) = g.length + lay false r
def Full (g : List UInt8) : Prop := lay false g = g.length
theorem Closed.full {g : List UInt8} (h : Closed g) : Full g := by
  have := h []
  rw [List.append_nil] at this
  exact this
def Starts (p : UInt8 → Bool) (l : List UInt8) : Prop := ∀ b r, l = b :: r → p b = true
def NoStart (p : UInt8 → Bool) (l : List UInt8) : Prop := ∀ b r, l = b :: r → p b = false
def isG (b : UInt8) : Bool := isB b || b == 35
theorem Full.starts {g : List UInt8} (h : Full g) : Starts isG g := by
  intro b r e
  subst e
  unfold Full at h
  unfold isG
  simp only [lay, List.length_cons] at h
  split at h
  · rename_i hb; rw [hb]; rfl
  · split at h
    · rename_i hb; rw [hb]; simp
    · omega
theorem isG_noL (b : UInt8) (h : isG b = true) : isL b = false ∧ isD b = false ∧ isS b = false := by
  unfold isG isB at h
  simp only [Bool.or_eq_true, beq_iff_eq] at h
  rcases h with (rfl | rfl) | rfl <;> decide
theorem isS_noL (b : UInt8) (h : isS b = true) : isL b = false ∧ isD b = false := by
  unfold isS at h
  simp only [Bool.or_eq_true, beq_iff_eq] at h
  rcases h with rfl | rfl <;> decide
theorem isD_noL (b : UInt8) (h : isD b = true) : isL b = false := by
  unfold isD at h
  unfold isL
  simp only [Bool.and_eq_true, decide_eq_true_eq] at h
  simp only [Bool.and_eq_false_iff, decide_eq_false_iff_not]
  omega
theorem isL_noD (b : UInt8) (h : isL b = true) : isD b = false := by
  unfold isL at h
  unfold isD
  simp only [Bool.and_eq_true, decide_eq_true_eq] at h
  simp only [Bool.and_eq_false_iff, decide_eq_false_iff_not]
  omega
inductive Tok : Nat → List UInt8 → Prop
  | word (b : UInt8) (t : List UInt8) (h : (b :: t).all isL = true) (h8 : (b :: t).length ≤ 8) : Tok 1 (b :: t)
  | num (b : UInt8) (t : List UInt8) (h : (b :: t).all isD = true) (h3 : (b :: t).length ≤ 3) (h0 : b = 48 → t = []) : Tok 2 (b :: t)
  | sign (b : UInt8) (h : isS b = true) : Tok 3 [b]
def clsT (t : List UInt8) : Nat := match t with
  | [] => 0
  | b :: _ => if isL b then 1 else if isD b then 2 else 3
def kindT (t : List UInt8) : Nat := match t with
  | [] => 0
  | b :: _ => if isL b then 1 else if isD b then 2 else b.toNat
theorem Tok.cls {k : Nat} {t : List UInt8} (h : Tok k t) : clsT t = k := by
  cases h with
  | word b t h _ =>
    have hb : isL b = true := by simp only [List.all_cons, Bool.and_eq_true] at h; exact h.1
    show (if isL b then 1 else if isD b then 2 else 3) = 1
    rw [if_pos hb]
  | num b t h _ _ =>
    have hb : isD b = true := by simp only [List.all_cons, Bool.and_eq_true] at h; exact h.1
    show (if isL b then 1 else if isD b then 2 else 3) = 2
    rw [if_neg (by rw [isD_noL b hb]; decide), if_pos hb]
  | sign b h =>
    show (if isL b then 1 else if isD b then 2 else 3) = 3
    rw [if_neg (by rw [(isS_noL b h).1]; decide), if_neg (by rw [(isS_noL b h).2]; decide)]
def laidT : List (List UInt8 × List UInt8) → List UInt8 → List UInt8
  | [], e => e
  | (g, t) :: l, e => g ++ (t ++ laidT l e)
def LaidOk : Nat → List (List UInt8 × List UInt8) → Prop
  | _, [] => True
  | k, (g, t) :: l => Closed g ∧ (∃ c, Tok c t) ∧ (g = [] → clsT t = 3 ∨ clsT t ≠ k) ∧ LaidOk (clsT t) l
def partsT : Nat → List (List UInt8 × List UInt8) → List Part
  | _, [] => []
  | i, (g, t) :: l => ⟨i + g.length, kindT t, t, -1⟩ :: partsT (i + g.length + t.length) l
theorem takeWhile_app {p : UInt8 → Bool} : ∀ {t r : List UInt8}, t.all p = true → NoStart p r → (t ++ r).takeWhile p = t
  | [], [], _, _ => rfl
  | [], b :: r, _, h => by rw [List.nil_append, List.takeWhile_cons_of_neg]; rw [h b r rfl]; decide
  | b :: t, r, ha, h => by
    simp only [List.all_cons, Bool.and_eq_true] at ha
    rw [List.cons_append, List.takeWhile_cons_of_pos ha.1, takeWhile_app ha.2 h]
theorem laid_noL {k : Nat} {l : List (List UInt8 × List UInt8)} {e : List UInt8} (h : LaidOk k l) (he : Full e) : (k = 1 → NoStart isL (laidT l e)) ∧ (k = 2 → NoStart isD (laidT l e)) := by
  cases l with
  | nil =>
    refine ⟨fun _ b r hb => (isG_noL b (he.starts b r hb)).1, fun _ b r hb => (isG_noL b (he.starts b r hb)).2.1⟩
  | cons p l =>
    obtain ⟨g, t⟩ := p
    obtain ⟨hg, ⟨c, ht⟩, hgl, hl⟩ := h
    have hc := ht.cls
    rw [hc] at hgl
    have key : ∀ b r, laidT ((g, t) :: l) e = b :: r → (isL b = true → c = 1 ∧ g = []) ∧ (isD b = true → c = 2 ∧ g = []) := by
      intro b r hb
      cases g with
      | cons b' g' =>
        have hb2 : b' = b := by
          have : laidT ((b' :: g', t) :: l) e = b' :: (g' ++ (t ++ laidT l e)) := rfl
          rw [this] at hb; injection hb
        subst hb2
        have := isG_noL b' (hg.full.starts b' g' rfl)
        exact ⟨fun h => (by rw [this.1] at h; cases h), fun h => (by rw [this.2.1] at h; cases h)⟩
      | nil =>
        have hb3 : t ++ laidT l e = b :: r := hb
        cases ht with
        | word b' t' ha _ =>
          injection hb3 with hb3 _
          subst hb3
          simp only [List.all_cons, Bool.and_eq_true] at ha
          exact ⟨fun _ => ⟨rfl, rfl⟩, fun h => (by rw [isL_noD _ ha.1] at h; cases h)⟩
        | num b' t' ha _ _ =>
          injection hb3 with hb3 _
          subst hb3
          simp only [List.all_cons, Bool.and_eq_true] at ha
          exact ⟨fun h => (by rw [isD_noL _ ha.1] at h; cases h), fun _ => ⟨rfl, rfl⟩⟩
        | sign b' ha =>
          injection hb3 with hb3 _
          subst hb3
          have := isS_noL _ ha
          exact ⟨fun h => (by rw [this.1] at h; cases h), fun h => (by rw [this.2] at h; cases h)⟩
    refine ⟨fun hk b r hb => ?_, fun hk b r hb => ?_⟩
    · cases hbl : isL b with
      | false => rfl
      | true =>
        obtain ⟨h1, h2⟩ := (key b r hb).1 hbl
        rcases hgl h2 with h3 | h3
        · omega
        · omega
    · cases hbl : isD b with
      | false => rfl
      | true =>
        obtain ⟨h1, h2⟩ := (key b r hb).2 hbl
        rcases hgl h2 with h3 | h3
        · omega
        · omega
theorem lay_stop {b : UInt8} {r : List UInt8} (h : isG b = false) : lay false (b :: r) = 0 := by
  unfold isG at h
  rw [Bool.or_eq_false_iff] at h
  show (if isB b then _ else if b == 35 then _ else 0) = 0
  rw [h.1, h.2]; rfl
theorem Tok.noG {k : Nat} {b : UInt8} {t : List UInt8} (h : Tok k (b :: t)) : isG b = false := by
  cases hb : isG b with
  | false => rfl
  | true =>
    have hn := isG_noL b hb
    cases h with
    | word _ _ ha _ => simp only [List.all_cons, Bool.and_eq_true] at ha; rw [hn.1] at ha; exact absurd ha.1 (by decide)
    | num _ _ ha _ _ => simp only [List.all_cons, Bool.and_eq_true] at ha; rw [hn.2.1] at ha; exact absurd ha.1 (by decide)
    | sign _ ha => rw [hn.2.2] at ha; cases ha
theorem Tok.next {k : Nat} {t r : List UInt8} (h : Tok k t) (h1 : k = 1 → NoStart isL r) (h2 : k = 2 → NoStart isD r) (i : Nat) : nextP i (t ++ r) = ⟨i, kindT t, t, -1⟩ := by
  cases h with
  | word b t ha h8 =>
    have hb : isL b = true := by simp only [List.all_cons, Bool.and_eq_true] at ha; exact ha.1
    have htw : ((b :: t) ++ r).takeWhile isL = b :: t := takeWhile_app ha (h1 rfl)
    rw [List.cons_append] at htw ⊢
    rw [nextP_cons, if_pos hb, htw, if_neg (by omega)]
    show _ = (⟨i, if isL b then 1 else _, _, _⟩ : Part)
    rw [if_pos hb]
  | num b t ha h3 h0 =>
    have hb : isD b = true := by simp only [List.all_cons, Bool.and_eq_true] at ha; exact ha.1
    have hbl := isD_noL b hb
    have htw : ((b :: t) ++ r).takeWhile isD = b :: t := takeWhile_app ha (h2 rfl)
    rw [List.cons_append] at htw ⊢
    rw [nextP_cons, if_neg (by rw [hbl]; decide), if_pos hb, htw, if_neg (by rintro ⟨e, hl⟩; rw [h0 e] at hl; simp at hl), if_neg (by omega)]
    show _ = (⟨i, if isL b then 1 else if isD b then 2 else _, _, _⟩ : Part)
    rw [if_neg (by rw [hbl]; decide), if_pos hb]
  | sign b hs =>
    have hb := isS_noL b hs
    rw [List.singleton_append, nextP_cons, if_neg (by rw [hb.1]; decide), if_neg (by rw [hb.2]; decide), if_pos hs]
    show _ = (⟨i, if isL b then 1 else if isD b then 2 else b.toNat, _, _⟩ : Part)
    rw [if_neg (by rw [hb.1]; decide), if_neg (by rw [hb.2]; decide)]
theorem Tok.kind {k : Nat} {t : List UInt8} (h : Tok k t) : kindT t ≠ 0 := by
  cases h with
  | word b t ha h8 =>
    have hb : isL b = true := by simp only [List.all_cons, Bool.and_eq_true] at ha; exact ha.1
    show (if isL b then 1 else _) ≠ 0
    rw [if_pos hb]; decide
  | num b t ha h3 h0 =>
    have hb : isD b = true := by simp only [List.all_cons, Bool.and_eq_true] at ha; exact ha.1
    show (if isL b then 1 else if isD b then 2 else _) ≠ 0
    rw [if_neg (by rw [isD_noL b hb]; decide), if_pos hb]; decide
  | sign b hs =>
    have hb := isS_noL b hs
    show (if isL b then 1 else if isD b then 2 else b.toNat) ≠ 0
    rw [if_neg (by rw [hb.1]; decide), if_neg (by rw [hb.2]; decide)]
    unfold isS at hs
    simp only [Bool.or_eq_true, beq_iff_eq] at hs
    rcases hs with rfl | rfl <;> decide
theorem Tok.ne {k : Nat} {t : List UInt8} (h : Tok k t) : ∃ b r, t = b :: r := by cases h <;> exact ⟨_, _, rfl⟩
theorem partsN_laid : ∀ (l : List (List UInt8 × List UInt8)) (k f i : Nat) (e : List UInt8), LaidOk k l → Full e → (laidT l e).length < f → partsN f i (laidT l e) = partsT i l
  | [], _, f, i, e, _, he, hf => by
    obtain ⟨f, rfl⟩ : ∃ g, f = g + 1 := ⟨f - 1, by omega⟩
    unfold partsN
    show (match e.drop (lay false e) with | [] => [] | c :: r => _) = []
    rw [he, List.drop_length]
  | (g, t) :: l, k, f, i, e, h, he, hf => by
    obtain ⟨f, rfl⟩ : ∃ g, f = g + 1 := ⟨f - 1, by omega⟩
    obtain ⟨hg, ⟨c, ht⟩, _, hl⟩ := h
    have hn := laid_noL hl he
    rw [ht.cls] at hn hl
    obtain ⟨b, r, rfl⟩ := ht.ne
    have hlay : lay false (laidT ((g, b :: r) :: l) e) = g.length := by
      show lay false (g ++ ((b :: r) ++ laidT l e)) = _
      rw [hg, List.cons_append, lay_stop ht.noG, Nat.add_zero]
    have hdrop : (laidT ((g, b :: r) :: l) e).drop g.length = b :: (r ++ laidT l e) := by
      show (g ++ ((b :: r) ++ laidT l e)).drop g.length = _
      rw [List.drop_left]; rfl
    have hnx := ht.next hn.1 hn.2 (i + g.length)
    rw [List.cons_append] at hnx
    unfold partsN
    rw [hlay, hdrop]
    simp only [hnx]
    rw [if_neg ht.kind]
    show _ = (⟨i + g.length, kindT (b :: r), b :: r, -1⟩ : Part) :: partsT (i + g.length + (b :: r).length) l
    congr 1
    have hd2 : (b :: (r ++ laidT l e)).drop (b :: r).length = laidT l e := by
      rw [← List.cons_append, List.drop_left]
    rw [hd2]
    refine partsN_laid l c f _ e hl he ?_
    have : (laidT ((g, b :: r) :: l) e).length = g.length + ((b :: r).length + (laidT l e).length) := by
      show (g ++ ((b :: r) ++ laidT l e)).length = _
      rw [List.length_append, List.length_append]
    rw [this] at hf
    simp only [List.length_cons] at hf
    omega
theorem partsP_laid {l : List (List UInt8 × List UInt8)} {e : List UInt8} (h : LaidOk 0 l) (he : Full e) : partsP (laidT l e) = partsT 0 l :=
  partsN_laid l 0 _ 0 e h he (Nat.lt_succ_self _)
end Go.Proofs.YtonnegkpjmhomaaGreatDoor
end
section
namespace Go.Proofs.YtonnegkpjmhomaaGreatDoor
theorem numV_app (l : List UInt8) (c : UInt8) : numV (l ++ [c]) = 10 * numV l + (c - 48).toNat := by simp [numV]
theorem decDigits_app {m : Nat} (h : ¬ m < 10) : Lib.decDigits m = Lib.decDigits (m / 10) ++ [UInt8.ofNat (48 + m % 10)] := by
  conv => lhs; rw [Lib.decDigits]
  rw [dif_neg h]
theorem dig_val : ∀ d : Fin 10, (UInt8.ofNat (48 + d.val) - 48).toNat = d.val ∧ isD (UInt8.ofNat (48 + d.val)) = true ∧ (0 < d.val → UInt8.ofNat (48 + d.val) ≠ 48) := by decide
theorem numV_dec : ∀ m : Nat, numV (Lib.decDigits m) = m := by
  intro m
  induction m using Nat.strongRecOn with
  | ind m ih =>
    by_cases h : m < 10
    · rw [Lib.decDigits_one h]
      have := (dig_val ⟨m, h⟩).1
      dsimp only at this
      show 10 * 0 + (UInt8.ofNat (48 + m) - 48).toNat = m
      rw [this]; omega
    · rw [decDigits_app h, numV_app, ih _ (Nat.div_lt_self (by omega) (by decide))]
      have := (dig_val ⟨m % 10, Nat.mod_lt _ (by decide)⟩).1
      dsimp only at this
      rw [this]; omega
theorem itoa_nat (m : Nat) : itoa (m : Int) = Lib.decDigits m := by
  show Lib.itoa (m : Int) = _
  rw [Lib.itoa, if_neg (by omega), Int.toNat_natCast]
theorem itoa_val {n : Int} (h : 0 ≤ n) : (numV (itoa n) : Int) = n := by
  obtain ⟨m, rfl⟩ : ∃ m : Nat, n = m := ⟨n.toNat, by omega⟩
  rw [itoa_nat, numV_dec]
theorem dec_forms {m : Nat} (h : m < 1000) : ∃ b t, Lib.decDigits m = b :: t ∧ (b :: t).all isD = true ∧ (b :: t).length ≤ 3 ∧ (b = 48 → t = []) := by
  have dv := fun d (hd : d < 10) => dig_val ⟨d, hd⟩
  dsimp only at dv
  by_cases h1 : m < 10
  · rw [Lib.decDigits_one h1]
    exact ⟨_, [], rfl, by show (isD _ && true) = true; rw [(dv m h1).2.1]; rfl, by show 1 ≤ 3; decide, fun _ => rfl⟩
  · by_cases h2 : m < 100
    · have k1 : m / 10 < 10 := by omega
      rw [decDigits_app h1, Lib.decDigits_one k1]
      refine ⟨_, _, rfl, ?_, by show 2 ≤ 3; decide, fun e => absurd e ((dv _ k1).2.2 (by omega))⟩
      have a1 := (dv _ k1).2.1
      have a2 := (dv (m % 10) (Nat.mod_lt _ (by decide))).2.1
      show (isD _ && (isD _ && true)) = true
      rw [a1, a2]; rfl
    · have k1 : ¬ m / 10 < 10 := by omega
      have k2 : m / 10 / 10 < 10 := by omega
      rw [decDigits_app h1, decDigits_app k1, Lib.decDigits_one k2]
      refine ⟨_, _, rfl, ?_, by show 3 ≤ 3; decide, fun e => absurd e ((dv _ k2).2.2 (by omega))⟩
      have a1 := (dv _ k2).2.1
      have a2 := (dv (m / 10 % 10) (Nat.mod_lt _ (by decide))).2.1
      have a3 := (dv (m % 10) (Nat.mod_lt _ (by decide))).2.1
      show (isD _ && (isD _ && (isD _ && true))) = true
      rw [a1, a2, a3]; rfl
theorem itoa_tok {n : Int} (h0 : 0 ≤ n) (h9 : n ≤ 999) : Tok 2 (itoa n) := by
  obtain ⟨m, rfl⟩ : ∃ m : Nat, n = m := ⟨n.toNat, by omega⟩
  obtain ⟨b, t, e, h1, h2, h3⟩ := dec_forms (m := m) (by omega)
  rw [itoa_nat, e]
  exact .num b t h1 h2 h3
theorem Tok.kind2 {t : List UInt8} (h : Tok 2 t) : kindT t = 2 := by
  cases h with
  | num b t ha _ _ =>
    have hb : isD b = true := by simp only [List.all_cons, Bool.and_eq_true] at ha; exact ha.1
    show (if isL b then 1 else if isD b then 2 else _) = 2
    rw [if_neg (by rw [isD_noL b hb]; decide), if_pos hb]
theorem word_all {k : Int} (h : 1 ≤ k ∧ k ≤ 14) : Tok 1 (wordK k) ∧ kindT (wordK k) = 1 ∧ kindW (wordK k) = k ∧ (wordK k == [105, 102]) = false := by
  obtain rfl | rfl | rfl | rfl | rfl | rfl | rfl | rfl | rfl | rfl | rfl | rfl | rfl | rfl : k = 1 ∨ k = 2 ∨ k = 3 ∨ k = 4 ∨ k = 5 ∨ k = 6 ∨ k = 7 ∨ k = 8 ∨ k = 9 ∨ k = 10 ∨ k = 11 ∨ k = 12 ∨ k = 13 ∨ k = 14 := by omega
  all_goals exact ⟨.word _ _ (by decide) (by decide), by decide, by decide, by decide⟩
def toksG (g : Gt) : List (List UInt8) := (if 0 < g.ifn then [[105, 102], itoa (g.ifn - 1), [58]] else []) ++ ([wordK g.kind] ++ (g.wires.map itoa ++ ((if g.kind = 13 then [itoa g.bit] else []) ++ [[59]])))
def toksH (c : Ct) (b : Bool) : List (List UInt8) := [[119, 105, 114, 101, 115], itoa c.wires] ++ ((if 0 < c.bits ∨ b = true then [[98, 105, 116, 115], itoa c.bits] else []) ++ [[59]])
def toksAll (c : Ct) (b : Bool) : List (List UInt8) := toksH c b ++ c.gates.flatMap toksG
def Seg (ps : List Part) : Nat → List (List UInt8) → Prop
  | _, [] => True
  | i, t :: ts => (∃ a, ps[i]? = some ⟨a, kindT t, t, -1⟩) ∧ Seg ps (i + 1) ts
theorem Seg.app {ps : List Part} : ∀ {a : List (List UInt8)} {i : Nat} {b : List (List UInt8)}, Seg ps i (a ++ b) → Seg ps i a ∧ Seg ps (i + a.length) b
  | [], _, _, h => ⟨trivial, h⟩
  | t :: a, i, b, h => by
    obtain ⟨h1, h2⟩ := h
    obtain ⟨h3, h4⟩ := Seg.app h2
    refine ⟨⟨h1, h3⟩, ?_⟩
    rw [List.length_cons, show i + (a.length + 1) = i + 1 + a.length by omega]
    exact h4
theorem seg_parts : ∀ (l : List (List UInt8 × List UInt8)) (i : Nat) (pre : List Part), Seg (pre ++ partsT i l) pre.length (l.map (·.2))
  | [], _, _ => trivial
  | (g, t) :: l, i, pre => by
    refine ⟨⟨i + g.length, ?_⟩, ?_⟩
    · rw [List.getElem?_append_right (Nat.le_refl _), Nat.sub_self]; rfl
    · have := seg_parts l (i + g.length + t.length) (pre ++ [⟨i + g.length, kindT t, t, -1⟩])
      rw [List.append_assoc, List.length_append] at this
      exact this
section
variable {ps : List Part} {n : Nat}
theorem look_some {i : Nat} {p : Part} (h : ps[i]? = some p) : lookP ps n i = p := by
  unfold lookP; rw [List.getD_eq_getElem?_getD, h]; rfl
theorem take_seg {nd : Part → Bool} {i : Nat} {t : List UInt8} {ts : List (List UInt8)} (h : Seg ps i (t :: ts)) (hk : kindT t ≠ 0) (hn : ∀ a, nd ⟨a, kindT t, t, -1⟩ = true) : takeP ps n nd ⟨i, -1⟩ = (t, ⟨i + 1, -1⟩) := by
  obtain ⟨a, ha⟩ := h.1
  have hl := look_some (n := n) ha
  unfold takeP
  rw [if_neg (show ¬ (0 : Int) ≤ -1 by decide)]
  dsimp only
  rw [hl, if_neg (by rintro (h | h); exact hk h; rw [hn a] at h; cases h), if_neg (show ¬ (0 : Int) ≤ -1 by decide)]
theorem num_seg {i : Nat} {m : Int} {ts : List (List UInt8)} (h : Seg ps i (itoa m :: ts)) (h0 : 0 ≤ m) (h9 : m ≤ 999) : numP ps n ⟨i, -1⟩ = (m, ⟨i + 1, -1⟩) := by
  have ht := itoa_tok h0 h9
  unfold numP
  rw [take_seg h ht.kind (fun a => by show (kindT (itoa m) == 2) = true; rw [ht.kind2]; rfl)]
  dsimp only
  rw [itoa_val h0]
theorem word_seg {w : List UInt8} {i : Nat} {ts : List (List UInt8)} (h : Seg ps i (w :: ts)) (hk : kindT w ≠ 0) : takeP ps n (isT w) ⟨i, -1⟩ = (w, ⟨i + 1, -1⟩) :=
  take_seg h hk (fun a => by show (w == w) = true; exact beq_self_eq_true _)
theorem begins_yes {w : List UInt8} {i : Nat} {ts : List (List UInt8)} (h : Seg ps i (w :: ts)) (hk : kindT w = 1) : beginsP ps n w ⟨i, -1⟩ = true := by
  obtain ⟨a, ha⟩ := h.1
  unfold beginsP
  dsimp only
  rw [look_some (n := n) ha]
  dsimp only
  rw [hk]
  simp
theorem begins_no {w t : List UInt8} {i : Nat} {ts : List (List UInt8)} (h : Seg ps i (t :: ts)) (hk : kindT t ≠ 1 ∨ (t == w) = false) : beginsP ps n w ⟨i, -1⟩ = false := by
  obtain ⟨a, ha⟩ := h.1
  unfold beginsP
  dsimp only
  rw [look_some (n := n) ha]
  dsimp only
  rcases hk with hk | hk
  · rw [show (kindT t == 1) = false by simpa using hk]; rfl
  · rw [hk]; simp
theorem wires_seg : ∀ {zs : List Int} {i : Nat} {ts : List (List UInt8)}, Seg ps i (zs.map itoa ++ ts) → (∀ z ∈ zs, 0 ≤ z ∧ z ≤ 999) → wiresP ps n zs.length ⟨i, -1⟩ = (zs, ⟨i + zs.length, -1⟩)
  | [], _, _, _, _ => rfl
  | z :: zs, i, ts, h, hz => by
    have h1 := num_seg (n := n) h (hz z (by simp)).1 (hz z (by simp)).2
    have h2 := wires_seg (zs := zs) (i := i + 1) (ts := ts) h.2 (fun x hx => hz x (by simp [hx]))
    rw [List.length_cons, wiresP, h1]
    dsimp only
    rw [h2]
    show (z :: zs, (⟨i + 1 + zs.length, -1⟩ : St)) = (z :: zs, ⟨i + (zs.length + 1), -1⟩)
    rw [show i + 1 + zs.length = i + (zs.length + 1) by omega]
structure GOk (g : Gt) : Prop where
  kind : 1 ≤ g.kind ∧ g.kind ≤ 14
  wires : ∀ z ∈ g.wires, 0 ≤ z ∧ z ≤ 999
  len : (g.wires.length : Int) = arity g.kind
  bit : 0 ≤ g.bit ∧ g.bit ≤ 999
  bit0 : g.kind ≠ 13 → g.bit = 0
  ifn : 0 ≤ g.ifn ∧ g.ifn ≤ 1000
theorem gate_seg {g : Gt} (hg : GOk g) {i : Nat} {ts : List (List UInt8)} (h : Seg ps i (toksG g ++ ts)) : gateP ps n ⟨i, -1⟩ = (g, ⟨i + (toksG g).length, -1⟩) := by
  obtain ⟨w1, w2, w3, w4⟩ := word_all hg.kind
  obtain ⟨k, ws, b, f⟩ := g
  dsimp only at *
  obtain ⟨hk, hws, hlen, hb, hb0, hf⟩ := hg
  dsimp only at *
  unfold toksG at h
  dsimp only at h
  rw [List.append_assoc] at h
  obtain ⟨h1, h2⟩ := h.app
  have hif : ∃ j, ifP ps n ⟨i, -1⟩ = (f, ⟨j, -1⟩) ∧ j = i + (if 0 < f then [[105, 102], itoa (f - 1), [58]] else [] : List (List UInt8)).length ∧ Seg ps j (([wordK k] ++ (ws.map itoa ++ ((if k = 13 then [itoa b] else []) ++ [[59]]))) ++ ts) := by
    by_cases hf0 : 0 < f
    · rw [if_pos hf0] at h1 h2
      refine ⟨i + 3, ?_, by rw [if_pos hf0]; rfl, h2⟩
      have a1 := begins_yes (n := n) (w := [105, 102]) h1 (by decide)
      have a2 := word_seg (n := n) (w := [105, 102]) h1 (by decide)
      have a3 := num_seg (n := n) (m := f - 1) h1.2 (by omega) (by omega)
      have a4 := word_seg (n := n) (w := [58]) h1.2.2 (by decide)
      unfold ifP
      rw [if_pos a1, a2]
      dsimp only
      rw [a3]
      dsimp only
      rw [a4]
      show (f - 1 + 1, (⟨i + 1 + 1 + 1, -1⟩ : St)) = (f, ⟨i + 3, -1⟩)
      rw [show f - 1 + 1 = f by omega]
    · rw [if_neg hf0] at h1 h2
      have hz : f = 0 := by omega
      refine ⟨i, ?_, by rw [if_neg hf0]; rfl, h2⟩
      unfold ifP
      have h2' : Seg ps i ([wordK k] ++ (ws.map itoa ++ ((if k = 13 then [itoa b] else []) ++ [[59]])) ++ ts) := h2
      rw [if_neg (by rw [begins_no (n := n) (w := [105, 102]) (t := wordK k) h2' (.inr w4)]; decide), hz]
  obtain ⟨j, e1, ej, h3⟩ := hif
  rw [List.append_assoc] at h3
  have e2 : kindP ps n ⟨j, -1⟩ = (k, ⟨j + 1, -1⟩) := by
    unfold kindP
    rw [take_seg (n := n) (nd := isK) h3 w1.kind (fun a => by show decide (0 < kindW (wordK k)) = true; rw [w3]; exact decide_eq_true (by omega))]
    dsimp only
    rw [w3]
  have h4 : Seg ps (j + 1) ((ws.map itoa ++ ((if k = 13 then [itoa b] else []) ++ [[59]])) ++ ts) := h3.2
  rw [List.append_assoc] at h4
  have e3 : wiresP ps n (arity k).toNat ⟨j + 1, -1⟩ = (ws, ⟨j + 1 + ws.length, -1⟩) := by
    rw [← hlen, Int.toNat_natCast]
    exact wires_seg h4 hws
  have h5 := h4.app.2
  rw [List.length_map, List.append_assoc] at h5
  have e4 : ∃ q, bitP ps n k ⟨j + 1 + ws.length, -1⟩ = (b, ⟨q, -1⟩) ∧ q = j + 1 + ws.length + (if k = 13 then [itoa b] else [] : List (List UInt8)).length ∧ Seg ps q ([[59]] ++ ts) := by
    by_cases h13 : k = 13
    · rw [if_pos h13] at h5
      refine ⟨j + 1 + ws.length + 1, ?_, by rw [if_pos h13]; rfl, h5.2⟩
      unfold bitP
      rw [if_pos h13]
      exact num_seg h5 hb.1 hb.2
    · rw [if_neg h13] at h5
      refine ⟨j + 1 + ws.length, ?_, by rw [if_neg h13]; rfl, h5⟩
      unfold bitP
      rw [if_neg h13, hb0 h13]
  obtain ⟨q, e4, eq, h6⟩ := e4
  have e5 := word_seg (n := n) (w := [59]) h6 (by decide)
  unfold gateP
  simp only [e1, e2, e3, e4, e5]
  have hl : (toksG ⟨k, ws, b, f⟩).length + i = q + 1 := by
    unfold toksG
    dsimp only
    rw [eq, ej]
    simp only [List.length_append, List.length_cons, List.length_nil, List.length_map]
    omega
  rw [show i + (toksG ⟨k, ws, b, f⟩).length = q + 1 by omega]
end
end Go.Proofs.YtonnegkpjmhomaaGreatDoor
end
section
namespace Go.Proofs.YtonnegkpjmhomaaGreatDoor
section
variable {ps : List Part} {n : Nat}
def spansT (ps : List Part) (n : Nat) : Nat → List Gt → List (Nat × Nat)
  | _, [] => []
  | i, g :: gs => ((lookP ps n i).at_, (lookP ps n (i + (toksG g).length - 1)).at_ + 1) :: spansT ps n (i + (toksG g).length) gs
theorem toksG_pos (g : Gt) : 0 < (toksG g).length := by
  unfold toksG
  simp only [List.length_append, List.length_cons, List.length_nil]
  omega
theorem gates_seg : ∀ {gs : List Gt} {i f : Nat}, (∀ g ∈ gs, GOk g) → Seg ps i (gs.flatMap toksG) → i + (gs.flatMap toksG).length = ps.length → gs.length < f → gatesP ps n f ⟨i, -1⟩ = (gs, spansT ps n i gs, ⟨ps.length, -1⟩)
  | [], i, f, _, _, hl, _ => by
    have hi : i = ps.length := by simpa using hl
    cases f with
    | zero => rw [hi]; rfl
    | succ f => rw [gatesP, if_pos (.inr hi), hi]; rfl
  | g :: gs, i, f, hg, h, hl, hf => by
    obtain ⟨f, rfl⟩ : ∃ k, f = k + 1 := ⟨f - 1, by simp at hf; omega⟩
    rw [List.flatMap_cons] at h hl
    rw [List.length_append] at hl
    have h1 := gate_seg (n := n) (hg g (by simp)) h
    have hp := toksG_pos g
    have ih := gates_seg (f := f) (fun x hx => hg x (by simp [hx])) h.app.2 (by omega) (by simp at hf; omega)
    have hne : ¬ ((0 : Int) ≤ -1 ∨ i = ps.length) := by
      rintro (h | h)
      · exact absurd h (by decide)
      · omega
    rw [gatesP]
    dsimp only
    rw [if_neg hne, h1]
    dsimp only
    rw [ih, if_neg (show ¬ (0 : Int) ≤ -1 by decide)]
    dsimp only
    unfold spanP
    rw [h1]
    rfl
theorem head_seg {c : Ct} {b : Bool} {ts : List (List UInt8)} (hw : 0 ≤ c.wires ∧ c.wires ≤ 999) (hb : 0 ≤ c.bits ∧ c.bits ≤ 999) (h : Seg ps 0 (toksH c b ++ ts)) : headP ps n ⟨0, -1⟩ = (c.wires, c.bits, ⟨(toksH c b).length, -1⟩) := by
  unfold toksH at h ⊢
  rw [List.append_assoc] at h
  obtain ⟨h1, h2⟩ := h.app
  have a1 := word_seg (n := n) (w := [119, 105, 114, 101, 115]) h1 (by decide)
  have a2 := num_seg (n := n) (m := c.wires) h1.2 hw.1 hw.2
  have h2 : Seg ps 2 (((if 0 < c.bits ∨ b = true then [[98, 105, 116, 115], itoa c.bits] else []) ++ [[59]]) ++ ts) := h2
  rw [List.append_assoc] at h2
  obtain ⟨h3, h4⟩ := h2.app
  by_cases hz : 0 < c.bits ∨ b = true
  · rw [if_pos hz] at h3 h4 ⊢
    have a3 := begins_yes (n := n) (w := [98, 105, 116, 115]) h3 (by decide)
    have a4 := word_seg (n := n) (w := [98, 105, 116, 115]) h3 (by decide)
    have a5 := num_seg (n := n) (m := c.bits) h3.2 hb.1 hb.2
    have h4 : Seg ps 4 ([[59]] ++ ts) := h4
    have a6 := word_seg (n := n) (w := [59]) h4 (by decide)
    unfold headP
    simp only [a1, a2, a3, a4, a5, a6, if_true]
    rfl
  · rw [if_neg hz] at h3 h4 ⊢
    have h4 : Seg ps 2 ([[59]] ++ ts) := h4
    have a3 := begins_no (n := n) (w := [98, 105, 116, 115]) h4 (.inl (by decide))
    have a6 := word_seg (n := n) (w := [59]) h4 (by decide)
    have hbz : c.bits = 0 := by omega
    unfold headP
    have a6' : takeP ps n (isT [59]) ⟨0 + 1 + 1, -1⟩ = ([59], ⟨2 + 1, -1⟩) := a6
    simp only [a1, a2, a3, a6', hbz, Bool.false_eq_true, if_false]
    rfl
end
theorem chkG_ok {W Bt : Int} {g : Gt} (hW : W ≤ 12) (hB : Bt ≤ 8) (h : chkG W Bt g = 0) : GOk g := by
  unfold chkG at h
  split at h; · omega
  rename_i h1
  split at h; · omega
  rename_i h2
  split at h; · omega
  rename_i h3
  split at h; · omega
  split at h; · omega
  rename_i h5
  split at h; · omega
  rename_i h6
  rw [Bool.not_eq_false, List.all_eq_true] at h3
  have hk : 1 ≤ g.kind ∧ g.kind ≤ 14 := by
    unfold arity at h1
    by_cases hk : 1 ≤ g.kind ∧ g.kind ≤ 14
    · exact hk
    · exact absurd (by rw [if_neg (by omega), if_neg (by omega), if_neg (by omega)]) h1
  refine ⟨hk, fun x hx => ?_, by omega, ?_, by omega, by omega⟩
  · have := h3 x hx
    simp only [wireB, Bool.and_eq_true, decide_eq_true_eq] at this
    omega
  · by_cases hk : g.kind = 13
    · omega
    · omega
theorem chkGs_each {W Bt : Int} : ∀ {gs : List Gt}, chkGs W Bt gs = 0 → ∀ g ∈ gs, chkG W Bt g = 0
  | [], _, g, h => by cases h
  | x :: l, h, g, hg => by
    have e : chkGs W Bt (x :: l) = if chkG W Bt x = 0 then chkGs W Bt l else chkG W Bt x := rfl
    rw [e] at h
    by_cases hx : chkG W Bt x = 0
    · rw [if_pos hx] at h
      rcases List.mem_cons.1 hg with rfl | hg
      · exact hx
      · exact chkGs_each h g hg
    · rw [if_neg hx] at h; exact absurd h hx
theorem chkC_ok {c : Ct} (h : chkC c = 0) : (1 ≤ c.wires ∧ c.wires ≤ 12) ∧ (0 ≤ c.bits ∧ c.bits ≤ 8) ∧ c.gates.length ≤ 120 ∧ ∀ g ∈ c.gates, GOk g := by
  unfold chkC at h
  split at h; · omega
  split at h; · omega
  exact ⟨by omega, by omega, by omega, fun g hg => chkG_ok (by omega) (by omega) (chkGs_each h g hg)⟩
theorem partsT_len : ∀ (l : List (List UInt8 × List UInt8)) (i : Nat), (partsT i l).length = l.length
  | [], _ => rfl
  | (g, t) :: l, i => by rw [partsT, List.length_cons, List.length_cons, partsT_len l]
theorem sRead_laid {c : Ct} {b : Bool} {l : List (List UInt8 × List UInt8)} {e : List UInt8} (hc : chkC c = 0) (hl : LaidOk 0 l) (he : Full e) (ht : l.map (·.2) = toksAll c b) (hn : (laidT l e).length ≤ 65536) :
    sRead (laidT l e) = (c, spansT (partsT 0 l) (laidT l e).length (toksH c b).length c.gates, 0, 0) := by
  obtain ⟨h1, h2, h3, h4⟩ := chkC_ok hc
  have hp := partsP_laid hl he
  have hs : Seg (partsT 0 l) 0 (toksAll c b) := by
    have := seg_parts l 0 []
    rw [ht] at this
    exact this
  have hlen : (partsT 0 l).length = (toksAll c b).length := by rw [partsT_len, ← ht, List.length_map]
  unfold toksAll at hs hlen
  rw [List.length_append] at hlen
  have hh := head_seg (n := (laidT l e).length) (c := c) (b := b) ⟨by omega, by omega⟩ ⟨by omega, by omega⟩ hs
  have hgl : ∀ gs : List Gt, gs.length ≤ (gs.flatMap toksG).length := by
    intro gs
    induction gs with
    | nil => exact Nat.le_refl _
    | cons g gs ih =>
      rw [List.flatMap_cons, List.length_append, List.length_cons]
      have := toksG_pos g
      omega
  have hg2 := hs.app.2
  rw [Nat.zero_add] at hg2
  have hg := gates_seg (n := (laidT l e).length) (f := (partsT 0 l).length + 1) h4 hg2 (by omega) (by have := hgl c.gates; omega)
  unfold sRead
  rw [if_neg (by omega), hp]
  simp only [hh, hg]
  rw [if_neg (by decide), if_neg (by rw [show (⟨c.wires, c.bits, c.gates⟩ : Ct) = c from rfl, hc]; decide)]
end Go.Proofs.YtonnegkpjmhomaaGreatDoor
end
section
namespace Go.Proofs.YtonnegkpjmhomaaGreatDoor
def lineL (g : Gt) : List (List UInt8 × List UInt8) := (if 0 < g.ifn then [([10], [105, 102]), ([32], itoa (g.ifn - 1)), ([], [58]), ([32], wordK g.kind)] else [([10], wordK g.kind)]) ++ (g.wires.map (fun z => ([32], itoa z)) ++ ((if g.kind = 13 then [([32], itoa g.bit)] else []) ++ [([], [59])]))
theorem laidT_app : ∀ (a b : List (List UInt8 × List UInt8)) (e : List UInt8), laidT (a ++ b) e = laidT a (laidT b e)
  | [], _, _ => rfl
  | (g, t) :: a, b, e => by rw [List.cons_append, laidT, laidT, laidT_app a b e]
theorem laidT_wires : ∀ (zs : List Int) (e : List UInt8), laidT (zs.map (fun z => ([32], itoa z))) e = zs.flatMap (fun w => 32 :: itoa w) ++ e
  | [], _ => rfl
  | z :: zs, e => by
    rw [List.map_cons, laidT, laidT_wires zs e, List.flatMap_cons]
    simp
theorem laidT_line (g : Gt) (e : List UInt8) : laidT (lineL g) e = [10] ++ shownP g ++ e := by
  unfold lineL shownP
  rw [laidT_app, laidT_app, laidT_app, laidT_wires]
  by_cases h1 : 0 < g.ifn <;> by_cases h2 : g.kind = 13 <;> simp [h1, h2, laidT]
theorem closed_nil : Closed [] := fun r => by simp
theorem closed_sp : Closed [32] := fun r => by
  show (if isB 32 then 1 + lay false r else _) = _
  rw [if_pos (by decide)]; rfl
theorem closed_nl : Closed [10] := fun r => by
  show (if isB 10 then 1 + lay false r else _) = _
  rw [if_pos (by decide)]; rfl
def RestOk (l : List (List UInt8 × List UInt8)) : Prop := ∀ k, LaidOk k l
theorem RestOk.nil : RestOk [] := fun _ => trivial
theorem RestOk.cons {g t : List UInt8} {l : List (List UInt8 × List UInt8)} {c : Nat} (hg : Closed g) (ht : Tok c t) (h : g ≠ [] ∨ c = 3) (hl : RestOk l) : RestOk ((g, t) :: l) := fun k =>
  ⟨hg, ⟨c, ht⟩, fun e => .inl (by rw [ht.cls]; exact h.resolve_left (fun h => h e)), hl _⟩
theorem tok_semi : Tok 3 [59] := .sign 59 (by decide)
theorem tok_colon : Tok 3 [58] := .sign 58 (by decide)
theorem RestOk.wires {l : List (List UInt8 × List UInt8)} (hl : RestOk l) : ∀ {zs : List Int}, (∀ z ∈ zs, 0 ≤ z ∧ z ≤ 999) → RestOk (zs.map (fun z => ([32], itoa z)) ++ l)
  | [], _ => hl
  | z :: zs, h => RestOk.cons closed_sp (itoa_tok (h z (by simp)).1 (h z (by simp)).2) (.inl (by decide)) (RestOk.wires hl (fun x hx => h x (by simp [hx])))
theorem RestOk.line {g : Gt} (hg : GOk g) {l : List (List UInt8 × List UInt8)} (hl : RestOk l) : RestOk (lineL g ++ l) := by
  unfold lineL
  rw [List.append_assoc, List.append_assoc, List.append_assoc]
  have h1 : RestOk ([([], [59])] ++ l) := RestOk.cons closed_nil tok_semi (.inr rfl) hl
  have h2 : RestOk ((if g.kind = 13 then [([32], itoa g.bit)] else []) ++ ([([], [59])] ++ l)) := by
    by_cases hk : g.kind = 13
    · rw [if_pos hk]; exact RestOk.cons closed_sp (itoa_tok hg.bit.1 hg.bit.2) (.inl (by decide)) h1
    · rw [if_neg hk]; exact h1
  have h3 := RestOk.wires h2 hg.wires
  have hw := (word_all hg.kind).1
  by_cases hi : 0 < g.ifn
  · rw [if_pos hi]
    exact RestOk.cons closed_nl (.word 105 [102] (by decide) (by decide)) (.inl (by decide)) (RestOk.cons closed_sp (itoa_tok (by omega) (by have := hg.ifn; omega)) (.inl (by decide)) (RestOk.cons closed_nil tok_colon (.inr rfl) (RestOk.cons closed_sp hw (.inl (by decide)) h3)))
  · rw [if_neg hi]
    exact RestOk.cons closed_nl hw (.inl (by decide)) h3
theorem lineL_toks (g : Gt) : (lineL g).map (·.2) = toksG g := by
  unfold lineL toksG
  by_cases h1 : 0 < g.ifn <;> by_cases h2 : g.kind = 13 <;> simp [h1, h2]
theorem itoa_len3 {n : Int} (h0 : 0 ≤ n) (h9 : n ≤ 999) : (itoa n).length ≤ 3 := by
  obtain ⟨m, rfl⟩ : ∃ m : Nat, n = m := ⟨n.toNat, by omega⟩
  obtain ⟨b, t, e, _, h2, _⟩ := dec_forms (m := m) (by omega)
  rw [itoa_nat, e]; exact h2
theorem word_len7 {k : Int} (h : 1 ≤ k ∧ k ≤ 14) : (wordK k).length ≤ 7 := by
  obtain rfl | rfl | rfl | rfl | rfl | rfl | rfl | rfl | rfl | rfl | rfl | rfl | rfl | rfl : k = 1 ∨ k = 2 ∨ k = 3 ∨ k = 4 ∨ k = 5 ∨ k = 6 ∨ k = 7 ∨ k = 8 ∨ k = 9 ∨ k = 10 ∨ k = 11 ∨ k = 12 ∨ k = 13 ∨ k = 14 := by omega
  all_goals decide
theorem wires_len4 : ∀ {zs : List Int}, (∀ z ∈ zs, 0 ≤ z ∧ z ≤ 999) → (zs.flatMap (fun w => 32 :: itoa w)).length ≤ 4 * zs.length
  | [], _ => Nat.le_refl _
  | z :: zs, h => by
    rw [List.flatMap_cons, List.length_append, List.length_cons, List.length_cons]
    have h1 := itoa_len3 (h z (by simp)).1 (h z (by simp)).2
    have h2 := wires_len4 (zs := zs) (fun x hx => h x (by simp [hx]))
    omega
theorem shownP_short {g : Gt} (h : GOk g) : (shownP g).length ≤ 50 := by
  unfold shownP
  have h1 := wires_len4 h.wires
  have h2 := word_len7 h.kind
  have h3 : g.wires.length ≤ 3 := by
    have := h.len
    have h4 : arity g.kind ≤ 3 := by unfold arity; repeat' split
                                     all_goals omega
    omega
  have h5 : (if 0 < g.ifn then [105, 102, 32] ++ itoa (g.ifn - 1) ++ [58, 32] else [] : List UInt8).length ≤ 8 := by
    split
    · have := itoa_len3 (n := g.ifn - 1) (by omega) (by have := h.ifn; omega)
      simp; omega
    · simp
  have h6 : (if g.kind = 13 then 32 :: itoa g.bit else [] : List UInt8).length ≤ 4 := by
    split
    · have := itoa_len3 h.bit.1 h.bit.2
      simp; omega
    · simp
  simp only [List.length_append, List.length_cons, List.length_nil] at *
  omega
end Go.Proofs.YtonnegkpjmhomaaGreatDoor
end
section
namespace Go.Proofs.YtonnegkpjmhomaaGreatDoor
theorem Closed.app {a b : List UInt8} (ha : Closed a) (hb : Closed b) : Closed (a ++ b) := fun r => by
  rw [List.append_assoc, ha, hb, List.length_append]; omega
theorem Closed.appFull {a b : List UInt8} (ha : Closed a) (hb : Full b) : Full (a ++ b) := by
  unfold Full at *
  rw [ha, hb, List.length_append]
def lastK : Nat → List (List UInt8 × List UInt8) → Nat
  | k, [] => k
  | _, (_, t) :: l => lastK (clsT t) l
theorem laidOk_app : ∀ {a b : List (List UInt8 × List UInt8)} {k : Nat}, LaidOk k (a ++ b) ↔ LaidOk k a ∧ LaidOk (lastK k a) b
  | [], _, _ => ⟨fun h => ⟨trivial, h⟩, fun h => h.2⟩
  | (_, _) :: _, _, _ => by
    constructor
    · rintro ⟨h1, h2, h3, h4⟩
      have h5 := laidOk_app.1 h4
      exact ⟨⟨h1, h2, h3, h5.1⟩, h5.2⟩
    · rintro ⟨⟨h1, h2, h3, h4⟩, h5⟩
      exact ⟨h1, h2, h3, laidOk_app.2 ⟨h4, h5⟩⟩
theorem lastK_app : ∀ (a b : List (List UInt8 × List UInt8)) (k : Nat), lastK k (a ++ b) = lastK (lastK k a) b
  | [], _, _ => rfl
  | (_, t) :: a, b, _ => lastK_app a b (clsT t)
theorem lastK_semi {l : List (List UInt8 × List UInt8)} {x : List (List UInt8)} {k : Nat} (h : l.map (·.2) = x ++ [[59]]) : lastK k l = 3 := by
  obtain ⟨l1, l2, rfl, h1, h2⟩ := List.map_eq_append_iff.1 h
  rw [lastK_app]
  match l2, h2 with
  | [(g, t)], h2 =>
    have : t = [59] := by simpa using h2
    subst this
    rfl
def regap (g : List UInt8) : List (List UInt8 × List UInt8) → List (List UInt8 × List UInt8)
  | [] => []
  | (_, t) :: l => (g, t) :: l
theorem regap_toks (g : List UInt8) (l : List (List UInt8 × List UInt8)) : (regap g l).map (·.2) = l.map (·.2) := by cases l <;> rfl
theorem laidT_end : ∀ (a : List (List UInt8 × List UInt8)) (p q : List UInt8), laidT a (p ++ q) = laidT a p ++ q
  | [], _, _ => rfl
  | (g, t) :: a, p, q => by rw [laidT, laidT, laidT_end a p q]; simp
theorem lineL_cons (g : Gt) : ∃ t m, lineL g = ([10], t) :: m := by
  unfold lineL
  by_cases h1 : 0 < g.ifn
  · exact ⟨_, _, by rw [if_pos h1]; rfl⟩
  · exact ⟨_, _, by rw [if_neg h1]; rfl⟩
theorem laidT_regap (p : List UInt8) (g : Gt) (e : List UInt8) : laidT (regap p (lineL g)) e = p ++ (shownP g ++ e) := by
  obtain ⟨t, m, h⟩ := lineL_cons g
  have h1 := laidT_line g e
  rw [h] at h1 ⊢
  have h2 : [10] ++ (t ++ laidT m e) = [10] ++ shownP g ++ e := h1
  rw [List.append_assoc] at h2
  show p ++ (t ++ laidT m e) = _
  rw [List.append_cancel_left h2]
theorem regap_ok {p : List UInt8} {g : Gt} (hg : GOk g) (hp : Closed p) {l : List (List UInt8 × List UInt8)} (hl : LaidOk 3 l) : LaidOk 3 (regap p (lineL g) ++ l) := by
  have h0 := RestOk.line hg RestOk.nil 3
  rw [List.append_nil] at h0
  obtain ⟨t, m, h⟩ := lineL_cons g
  have hk : lastK 3 (regap p (lineL g)) = 3 := by
    obtain ⟨x, hx⟩ : ∃ x, toksG g = x ++ [[59]] := ⟨_, by unfold toksG; rw [← List.append_assoc, ← List.append_assoc, ← List.append_assoc]⟩
    refine lastK_semi (x := x) ?_
    rw [regap_toks, lineL_toks, hx]
  refine laidOk_app.2 ⟨?_, by rw [hk]; exact hl⟩
  rw [h] at h0 ⊢
  obtain ⟨h1, h2, h3, h4⟩ := h0
  have ht : clsT t = 1 := by
    have e : t = wordK g.kind ∨ t = [105, 102] := by
      unfold lineL at h
      by_cases h1 : 0 < g.ifn
      · rw [if_pos h1] at h; injection h with h _; injection h with _ h; exact .inr h.symm
      · rw [if_neg h1] at h; injection h with h _; injection h with _ h; exact .inl h.symm
    rcases e with rfl | rfl
    · exact (word_all hg.kind).1.cls
    · rfl
  exact ⟨hp, h2, fun _ => .inr (by rw [ht]; decide), h4⟩
theorem laid_split {c : Ct} {b : Bool} {l : List (List UInt8 × List UInt8)} (ht : l.map (·.2) = toksAll c b) {i : Nat} (hi : i < c.gates.length) :
    ∃ A G R, l = A ++ (G ++ R) ∧ A.map (·.2) = toksH c b ++ (c.gates.take i).flatMap toksG ∧ G.map (·.2) = toksG c.gates[i] ∧ R.map (·.2) = (c.gates.drop (i + 1)).flatMap toksG := by
  have e : toksAll c b = (toksH c b ++ (c.gates.take i).flatMap toksG) ++ (toksG c.gates[i] ++ (c.gates.drop (i + 1)).flatMap toksG) := by
    unfold toksAll
    conv => lhs; rw [← List.take_append_drop i c.gates, List.drop_eq_getElem_cons hi, List.flatMap_append, List.flatMap_cons]
    rw [List.append_assoc]
  rw [e] at ht
  obtain ⟨A, L, rfl, h1, h2⟩ := List.map_eq_append_iff.1 ht
  obtain ⟨G, R, rfl, h3, h4⟩ := List.map_eq_append_iff.1 h2
  exact ⟨A, G, R, rfl, h1, h3, h4⟩
theorem toks_semi (c : Ct) (b : Bool) (gs : List Gt) : ∃ x, toksH c b ++ gs.flatMap toksG = x ++ [[59]] := by
  rcases List.eq_nil_or_concat gs with rfl | ⟨gs, g, rfl⟩
  · exact ⟨[[119, 105, 114, 101, 115], itoa c.wires] ++ (if 0 < c.bits ∨ b = true then [[98, 105, 116, 115], itoa c.bits] else []), by unfold toksH; simp⟩
  · obtain ⟨x, hx⟩ : ∃ x, toksG g = x ++ [[59]] := ⟨_, by unfold toksG; rw [← List.append_assoc, ← List.append_assoc, ← List.append_assoc]⟩
    exact ⟨toksH c b ++ gs.flatMap toksG ++ x, by rw [List.concat_eq_append, List.flatMap_append, List.flatMap_cons, List.flatMap_nil, List.append_nil, hx]; simp⟩
theorem partsT_app : ∀ (a l : List (List UInt8 × List UInt8)) (i : Nat), partsT i (a ++ l) = partsT i a ++ partsT (i + (laidT a []).length) l
  | [], l, i => by simp [partsT, laidT]
  | (g, t) :: a, l, i => by
    rw [List.cons_append, partsT, partsT, partsT_app a l, List.cons_append]
    have : (laidT ((g, t) :: a) []).length = g.length + (t.length + (laidT a []).length) := by
      show (g ++ (t ++ laidT a [])).length = _
      rw [List.length_append, List.length_append]
    rw [this, show i + g.length + t.length + (laidT a []).length = i + (g.length + (t.length + (laidT a []).length)) by omega]
theorem spansT_get {ps : List Part} {n : Nat} : ∀ (gs : List Gt) (s i : Nat) (h : i < gs.length), (spansT ps n s gs)[i]? = some ((lookP ps n (s + ((gs.take i).flatMap toksG).length)).at_, (lookP ps n (s + ((gs.take i).flatMap toksG).length + (toksG gs[i]).length - 1)).at_ + 1)
  | g :: gs, s, 0, h => rfl
  | g :: gs, s, i + 1, h => by
    rw [spansT, List.getElem?_cons_succ, spansT_get gs _ i (by simpa using h), List.take_succ_cons, List.flatMap_cons, List.length_append]
    simp only [List.getElem_cons_succ]
    rw [show s + (toksG g).length + ((gs.take i).flatMap toksG).length = s + ((toksG g).length + ((gs.take i).flatMap toksG).length) by omega]
theorem spansT_len {ps : List Part} {n : Nat} : ∀ (gs : List Gt) (s : Nat), (spansT ps n s gs).length = gs.length
  | [], _ => rfl
  | g :: gs, s => by rw [spansT, List.length_cons, List.length_cons, spansT_len gs]
theorem chkC_mk {c : Ct} (hw : 1 ≤ c.wires ∧ c.wires ≤ 12) (hb : 0 ≤ c.bits ∧ c.bits ≤ 8) (hl : c.gates.length ≤ 120) (hg : ∀ g ∈ c.gates, chkG c.wires c.bits g = 0) : chkC c = 0 := by
  unfold chkC
  rw [if_neg (by omega), if_neg (by omega)]
  generalize c.gates = gs at hg
  induction gs with
  | nil => rfl
  | cons g gs ih =>
    show (if chkG c.wires c.bits g = 0 then chkGs c.wires c.bits gs else chkG c.wires c.bits g) = 0
    rw [if_pos (hg g (by simp))]
    exact ih (fun x hx => hg x (by simp [hx]))
theorem chkC_gates {c : Ct} (h : chkC c = 0) : ∀ g ∈ c.gates, chkG c.wires c.bits g = 0 := by
  unfold chkC at h
  split at h; · omega
  split at h; · omega
  exact chkGs_each h
structure LaidC (c : Ct) (b : Bool) (l : List (List UInt8 × List UInt8)) (e : List UInt8) : Prop where
  right : chkC c = 0
  ok : LaidOk 0 l
  full : Full e
  toks : l.map (·.2) = toksAll c b
theorem LaidC.read {c : Ct} {b : Bool} {l : List (List UInt8 × List UInt8)} {e : List UInt8} (h : LaidC c b l e) (hn : (laidT l e).length ≤ 65536) : sRead (laidT l e) = (c, spansT (partsT 0 l) (laidT l e).length (toksH c b).length c.gates, 0, 0) :=
  sRead_laid h.right h.ok h.full h.toks hn
theorem chkC_more {c : Ct} {W B : Int} {gs : List Gt} (h : chkC c = 0) (hW : W = c.wires) (hB : B = c.bits) (hl : gs.length ≤ 120) (hg : ∀ g ∈ gs, g ∈ c.gates ∨ chkG c.wires c.bits g = 0) : chkC ⟨W, B, gs⟩ = 0 := by
  subst hW hB
  obtain ⟨h1, h2, h3, h4⟩ := chkC_ok h
  exact chkC_mk (c := ⟨c.wires, c.bits, gs⟩) h1 h2 hl (fun g hg' => (hg g hg').elim (chkC_gates h g) id)
structure Spot (c : Ct) (b : Bool) (l : List (List UInt8 × List UInt8)) (e : List UInt8) (i : Nat) (hi : i < c.gates.length) (A G' R : List (List UInt8 × List UInt8)) (p t : List UInt8) : Prop where
  eq : l = A ++ ((p, t) :: (G' ++ R))
  a : A.map (·.2) = toksH c b ++ (c.gates.take i).flatMap toksG
  g : (((p, t) :: G').map (·.2)) = toksG c.gates[i]
  r : R.map (·.2) = (c.gates.drop (i + 1)).flatMap toksG
  okA : LaidOk 0 A
  k3 : lastK 0 A = 3
  okG : LaidOk 3 ((p, t) :: (G' ++ R))
  okR : LaidOk 3 R
  p : Closed p
theorem spot {c : Ct} {b : Bool} {l : List (List UInt8 × List UInt8)} {e : List UInt8} (h : LaidC c b l e) {i : Nat} (hi : i < c.gates.length) : ∃ A G' R p t, Spot c b l e i hi A G' R p t := by
  obtain ⟨A, G, R, e1, h1, h2, h3⟩ := laid_split h.toks hi
  have hk := h.ok
  rw [e1] at hk
  obtain ⟨k1, k2⟩ := laidOk_app.1 hk
  obtain ⟨x, hx⟩ := toks_semi c b (c.gates.take i)
  have k3 : lastK 0 A = 3 := lastK_semi (h1.trans hx)
  rw [k3] at k2
  obtain ⟨k4, k5⟩ := laidOk_app.1 k2
  obtain ⟨y, hy⟩ : ∃ x, toksG c.gates[i] = x ++ [[59]] := ⟨_, by unfold toksG; rw [← List.append_assoc, ← List.append_assoc, ← List.append_assoc]⟩
  rw [lastK_semi (h2.trans hy)] at k5
  match G, h2, k2 with
  | [], h2, _ => have := toksG_pos c.gates[i]; rw [← h2] at this; exact absurd this (by decide)
  | (p, t) :: G', h2, k2 => exact ⟨A, G', R, p, t, e1, h1, h2, h3, k1, k3, k2, k5, k2.1⟩
section
variable {c : Ct} {b : Bool} {l : List (List UInt8 × List UInt8)} {e : List UInt8} {i : Nat} {hi : i < c.gates.length} {A G' R : List (List UInt8 × List UInt8)} {p t : List UInt8}
theorem Spot.len (h : Spot c b l e i hi A G' R p t) : A.length = (toksH c b).length + ((c.gates.take i).flatMap toksG).length := by
  have := congrArg List.length h.a
  rw [List.length_map, List.length_append] at this
  exact this
theorem Spot.cut (h : Spot c b l e i hi A G' R p t) : (laidT l e).take (laidT A p).length = laidT A p ∧ (laidT l e).drop (laidT A p).length = t ++ laidT (G' ++ R) e ∧ (laidT l e).drop (laidT (A ++ ((p, t) :: G')) []).length = laidT R e ∧ (laidT A p).length ≤ (laidT (A ++ ((p, t) :: G')) []).length ∧ (laidT (A ++ ((p, t) :: G')) []).length ≤ (laidT l e).length := by
  have e1 : laidT l e = laidT A p ++ (t ++ laidT (G' ++ R) e) := by
    rw [h.eq, laidT_app, ← laidT_end]
    rfl
  have e2 : laidT l e = laidT (A ++ ((p, t) :: G')) [] ++ laidT R e := by
    rw [h.eq, show A ++ ((p, t) :: (G' ++ R)) = (A ++ ((p, t) :: G')) ++ R by simp, laidT_app, ← laidT_end]
    rfl
  have e3 : laidT (A ++ ((p, t) :: G')) [] = laidT A p ++ (t ++ laidT G' []) := by
    rw [laidT_app, ← laidT_end]
    rfl
  refine ⟨by rw [e1, List.take_left], by rw [e1, List.drop_left], by rw [e2, List.drop_left], ?_, ?_⟩
  · rw [e3, List.length_append]; omega
  · rw [e2, List.length_append]; omega
theorem Spot.put (h : Spot c b l e i hi A G' R p t) (hc : LaidC c b l e) {g : Gt} (hg : chkG c.wires c.bits g = 0) (hn : (laidT l e).length ≤ 65000) :
    ∃ sp, sRead (laidT A p ++ shownP g ++ laidT R e) = (⟨c.wires, c.bits, c.gates.take i ++ (g :: c.gates.drop (i + 1))⟩, sp, 0, 0) := by
  obtain ⟨h1, h2, h3, h4⟩ := chkC_ok hc.right
  have hgo := chkG_ok (by omega) (by omega) hg
  have hsh := shownP_short hgo
  have hcut := h.cut
  have hT : laidT (A ++ (regap p (lineL g) ++ R)) e = laidT A p ++ shownP g ++ laidT R e := by
    rw [laidT_app, laidT_app, laidT_regap, laidT_end, List.append_assoc]
  have hC : LaidC ⟨c.wires, c.bits, c.gates.take i ++ (g :: c.gates.drop (i + 1))⟩ b (A ++ (regap p (lineL g) ++ R)) e := by
    refine ⟨chkC_more hc.right rfl rfl ?_ ?_, laidOk_app.2 ⟨h.okA, by rw [h.k3]; exact regap_ok hgo h.p h.okR⟩, hc.full, ?_⟩
    · simp only [List.length_append, List.length_cons, List.length_take, List.length_drop]; omega
    · intro x hx
      rcases List.mem_append.1 hx with hx | hx
      · exact .inl (List.mem_of_mem_take hx)
      · rcases List.mem_cons.1 hx with rfl | hx
        · exact .inr hg
        · exact .inl (List.mem_of_mem_drop hx)
    · rw [List.map_append, List.map_append, regap_toks, lineL_toks, h.a, h.r]
      unfold toksAll
      rw [List.flatMap_append, List.flatMap_cons]
      simp [toksH]
  have hlen : (laidT A p ++ shownP g ++ laidT R e).length ≤ 65536 := by
    have e2 := congrArg List.length hcut.2.2.1
    rw [List.length_drop] at e2
    rw [List.length_append, List.length_append]
    omega
  rw [← hT] at hlen ⊢
  exact ⟨_, hC.read hlen⟩
theorem Spot.insert (h : Spot c b l e i hi A G' R p t) (hc : LaidC c b l e) {g : Gt} (hg : chkG c.wires c.bits g = 0) (hm : c.gates.length ≤ 100) (hn : (laidT l e).length ≤ 65000) :
    ∃ sp, sRead (laidT A p ++ shownP g ++ [10] ++ (t ++ laidT (G' ++ R) e)) = (⟨c.wires, c.bits, c.gates.take i ++ (g :: c.gates.drop i)⟩, sp, 0, 0) := by
  obtain ⟨h1, h2, h3, h4⟩ := chkC_ok hc.right
  have hgo := chkG_ok (by omega) (by omega) hg
  have hsh := shownP_short hgo
  have hcut := h.cut
  have hT : laidT (A ++ (regap p (lineL g) ++ (([10], t) :: (G' ++ R)))) e = laidT A p ++ shownP g ++ [10] ++ (t ++ laidT (G' ++ R) e) := by
    rw [laidT_app, laidT_app, laidT_regap, laidT_end, List.append_assoc, List.append_assoc]
    rfl
  have hC : LaidC ⟨c.wires, c.bits, c.gates.take i ++ (g :: c.gates.drop i)⟩ b (A ++ (regap p (lineL g) ++ (([10], t) :: (G' ++ R)))) e := by
    refine ⟨chkC_more hc.right rfl rfl ?_ ?_, laidOk_app.2 ⟨h.okA, by rw [h.k3]; exact regap_ok hgo h.p ⟨closed_nl, h.okG.2.1, (fun e0 => absurd e0 (by decide)), h.okG.2.2.2⟩⟩, hc.full, ?_⟩
    · simp only [List.length_append, List.length_cons, List.length_take, List.length_drop]; omega
    · intro x hx
      rcases List.mem_append.1 hx with hx | hx
      · exact .inl (List.mem_of_mem_take hx)
      · rcases List.mem_cons.1 hx with rfl | hx
        · exact .inr hg
        · exact .inl (List.mem_of_mem_drop hx)
    · have e3 : (([10], t) :: (G' ++ R)).map (·.2) = toksG c.gates[i] ++ (c.gates.drop (i + 1)).flatMap toksG := by
        rw [← h.g, ← h.r]; simp
      rw [List.map_append, List.map_append, regap_toks, lineL_toks, h.a, e3]
      unfold toksAll
      rw [List.flatMap_append, List.flatMap_cons, List.drop_eq_getElem_cons hi, List.flatMap_cons]
      simp [toksH]
  have hlen : (laidT A p ++ shownP g ++ [10] ++ (t ++ laidT (G' ++ R) e)).length ≤ 65536 := by
    have e2 := congrArg List.length hcut.2.1
    rw [List.length_drop] at e2
    rw [List.length_append, List.length_append, List.length_append, ← e2]
    simp only [List.length_cons, List.length_nil]
    omega
  rw [← hT] at hlen ⊢
  exact ⟨_, hC.read hlen⟩
theorem Spot.none (h : Spot c b l e i hi A G' R p t) (hc : LaidC c b l e) (hn : (laidT l e).length ≤ 65000) :
    ∃ sp, sRead (laidT A p ++ laidT R e) = (⟨c.wires, c.bits, c.gates.take i ++ c.gates.drop (i + 1)⟩, sp, 0, 0) := by
  obtain ⟨h1, h2, h3, h4⟩ := chkC_ok hc.right
  have hcut := h.cut
  have hright : chkC ⟨c.wires, c.bits, c.gates.take i ++ c.gates.drop (i + 1)⟩ = 0 := by
    refine chkC_more hc.right rfl rfl ?_ ?_
    · simp only [List.length_append, List.length_take, List.length_drop]; omega
    · intro x hx
      rcases List.mem_append.1 hx with hx | hx
      · exact .inl (List.mem_of_mem_take hx)
      · exact .inl (List.mem_of_mem_drop hx)
  have hlen : (laidT A p ++ laidT R e).length ≤ 65536 := by
    have e2 := congrArg List.length hcut.2.2.1
    rw [List.length_drop] at e2
    rw [List.length_append]
    omega
  have htoks : (A ++ R).map (·.2) = toksAll ⟨c.wires, c.bits, c.gates.take i ++ c.gates.drop (i + 1)⟩ b := by
    rw [List.map_append, h.a, h.r]
    unfold toksAll
    rw [List.flatMap_append]
    simp [toksH]
  have hR := h.okR
  cases R with
  | nil =>
    have hT : laidT (A ++ []) (p ++ e) = laidT A p ++ laidT [] e := by rw [List.append_nil, laidT_end]; rfl
    have hC : LaidC ⟨c.wires, c.bits, c.gates.take i ++ c.gates.drop (i + 1)⟩ b (A ++ []) (p ++ e) := ⟨hright, by rw [List.append_nil]; exact h.okA, h.p.appFull hc.full, htoks⟩
    rw [← hT] at hlen ⊢
    exact ⟨_, hC.read hlen⟩
  | cons q R =>
    obtain ⟨q, u⟩ := q
    have hT : laidT (A ++ ((p ++ q, u) :: R)) e = laidT A p ++ laidT ((q, u) :: R) e := by
      rw [laidT_app, ← laidT_end]
      show laidT A (p ++ q ++ (u ++ laidT R e)) = laidT A (p ++ (q ++ (u ++ laidT R e)))
      rw [List.append_assoc]
    have hC : LaidC ⟨c.wires, c.bits, c.gates.take i ++ c.gates.drop (i + 1)⟩ b (A ++ ((p ++ q, u) :: R)) e := by
      refine ⟨hright, laidOk_app.2 ⟨h.okA, ?_⟩, hc.full, by rw [← htoks]; simp⟩
      rw [h.k3]
      exact ⟨h.p.app hR.1, hR.2.1, fun e0 => hR.2.2.1 (List.append_eq_nil_iff.1 e0).2, hR.2.2.2⟩
    rw [← hT] at hlen ⊢
    exact ⟨_, hC.read hlen⟩
end
end Go.Proofs.YtonnegkpjmhomaaGreatDoor
end
