import Derived.Test.YtonnegkpjmhomaaGreatDoorDBegun18
set_option linter.all false
section
namespace Go.Proofs.YtonnegkpjmhomaaGreatDoor
section
variable {ps : List Part} {n i0 m : Nat}
def Stop (ps : List Part) (n i0 m : Nat) : Prop := (lookP ps n i0).kind = 0 ∧ (lookP ps n i0).at_ = m
def Pre (ps : List Part) (i0 m : Nat) (ts : List (List UInt8)) (s : St) : Prop :=
  s.wrong = m ∨ (s.wrong = -1 ∧ ∃ pre post, ts = pre ++ post ∧ post ≠ [] ∧ s.i + pre.length = i0 ∧ Seg ps s.i pre)
theorem Pre.nil {s : St} (h : Pre ps i0 m [] s) : s.wrong = m := by
  rcases h with h | ⟨_, pre, post, e, hne, _⟩
  · exact h
  · have := congrArg List.length e
    simp only [List.length_nil, List.length_append] at this
    exact absurd (List.length_eq_zero_iff.1 (by omega)) hne
theorem take_keep {nd : Part → Bool} {s : St} (h : 0 ≤ s.wrong) : takeP ps n nd s = ([], s) := by unfold takeP; rw [if_pos h]
theorem num_keep {s : St} (h : 0 ≤ s.wrong) : (numP ps n s).2 = s := by unfold numP; rw [take_keep h]
theorem wires_keep {s : St} (h : 0 ≤ s.wrong) : ∀ k, (wiresP ps n k s).2 = s
  | 0 => rfl
  | k + 1 => by rw [wiresP]; dsimp only; rw [num_keep h]; exact wires_keep h k
theorem bit_keep {s : St} (h : 0 ≤ s.wrong) (k : Int) : (bitP ps n k s).2 = s := by
  unfold bitP
  split
  · exact num_keep h
  · rfl
theorem begins_keep {w : List UInt8} {s : St} (h : 0 ≤ s.wrong) : beginsP ps n w s = false := by
  unfold beginsP
  rw [decide_eq_false (by omega)]
  rfl
theorem begins_stop {w : List UInt8} {s : St} (hs : Stop ps n i0 m) (h : s.i = i0) : beginsP ps n w s = false := by
  unfold beginsP
  rw [h, hs.1]
  simp
theorem take_stop {nd : Part → Bool} {s : St} (hs : Stop ps n i0 m) (hw : s.wrong = -1) (h : s.i = i0) : takeP ps n nd s = ([], ⟨s.i, m⟩) := by
  unfold takeP
  rw [if_neg (by omega), h, if_pos (.inl hs.1), hs.2]
theorem Pre.done {ts : List (List UInt8)} {s : St} (h : s.wrong = m) : Pre ps i0 m ts s := .inl h
theorem take_pre {nd : Part → Bool} {t : List UInt8} {ts : List (List UInt8)} {s : St} (hs : Stop ps n i0 m) (h : Pre ps i0 m (t :: ts) s) (hk : kindT t ≠ 0) (hn : ∀ a, nd ⟨a, kindT t, t, -1⟩ = true) :
    Pre ps i0 m ts (takeP ps n nd s).2 ∧ ((takeP ps n nd s).2.wrong = m ∨ ((takeP ps n nd s).1 = t ∧ (takeP ps n nd s).2 = ⟨s.i + 1, -1⟩)) := by
  rcases h with h | ⟨hw, pre, post, e, hne, hl, hq⟩
  · rw [take_keep (by omega)]
    exact ⟨.inl h, .inl h⟩
  · cases pre with
    | nil =>
      rw [take_stop hs hw (by simpa using hl)]
      exact ⟨.inl rfl, .inl rfl⟩
    | cons t' pre =>
      injection e with e1 e2
      subst e1
      obtain ⟨i, wr⟩ := s
      dsimp only at hw
      subst hw
      rw [take_seg hq hk hn]
      exact ⟨.inr ⟨rfl, pre, post, e2, hne, by simp at hl; dsimp only; omega, hq.2⟩, .inr ⟨rfl, rfl⟩⟩
theorem num_pre {z : Int} {ts : List (List UInt8)} {s : St} (hs : Stop ps n i0 m) (h : Pre ps i0 m (itoa z :: ts) s) (h0 : 0 ≤ z) (h9 : z ≤ 999) :
    Pre ps i0 m ts (numP ps n s).2 ∧ ((numP ps n s).2.wrong = m ∨ ((numP ps n s).1 = z ∧ (numP ps n s).2 = ⟨s.i + 1, -1⟩)) := by
  have ht := itoa_tok h0 h9
  obtain ⟨h1, h2⟩ := take_pre (nd := isN) hs h ht.kind (fun a => by show (kindT (itoa z) == 2) = true; rw [ht.kind2]; rfl)
  refine ⟨h1, ?_⟩
  rcases h2 with h2 | ⟨h2, h3⟩
  · exact .inl h2
  · exact .inr ⟨by unfold numP; dsimp only; rw [h2, itoa_val h0], h3⟩
theorem word_pre {w : List UInt8} {ts : List (List UInt8)} {s : St} (hs : Stop ps n i0 m) (h : Pre ps i0 m (w :: ts) s) (hk : kindT w ≠ 0) :
    Pre ps i0 m ts (takeP ps n (isT w) s).2 ∧ ((takeP ps n (isT w) s).2.wrong = m ∨ ((takeP ps n (isT w) s).1 = w ∧ (takeP ps n (isT w) s).2 = ⟨s.i + 1, -1⟩)) :=
  take_pre hs h hk (fun a => by show (w == w) = true; exact beq_self_eq_true _)
theorem wires_pre : ∀ {zs : List Int} {ts : List (List UInt8)} {s : St}, Stop ps n i0 m → Pre ps i0 m (zs.map itoa ++ ts) s → (∀ z ∈ zs, 0 ≤ z ∧ z ≤ 999) →
    Pre ps i0 m ts (wiresP ps n zs.length s).2
  | [], _, _, _, h, _ => h
  | z :: zs, ts, s, hs, h, hz => by
    have h1 := (num_pre hs h (hz z (by simp)).1 (hz z (by simp)).2).1
    rw [List.length_cons, wiresP]
    exact wires_pre hs h1 (fun x hx => hz x (by simp [hx]))
theorem begins_pre {w t : List UInt8} {ts : List (List UInt8)} {s : St} (hs : Stop ps n i0 m) (h : Pre ps i0 m (t :: ts) s) (hk : kindT t ≠ 1 ∨ (t == w) = false) : beginsP ps n w s = false := by
  rcases h with h | ⟨hw, pre, post, e, hne, hl, hq⟩
  · exact begins_keep (by omega)
  · cases pre with
    | nil => exact begins_stop hs (by simpa using hl)
    | cons t' pre =>
      injection e with e1 e2
      subst e1
      obtain ⟨i, wr⟩ := s
      dsimp only at hw
      subst hw
      exact begins_no hq hk
theorem begins_pre_yes {w : List UInt8} {ts : List (List UInt8)} {s : St} (h : Pre ps i0 m (w :: ts) s) (hb : beginsP ps n w s = false) (hk : kindT w = 1) : s.wrong = m ∨ (s.wrong = -1 ∧ s.i = i0) := by
  rcases h with h | ⟨hw, pre, post, e, hne, hl, hq⟩
  · exact .inl h
  · cases pre with
    | nil => exact .inr ⟨hw, by simpa using hl⟩
    | cons t' pre =>
      injection e with e1 e2
      subst e1
      obtain ⟨i, wr⟩ := s
      dsimp only at hw
      subst hw
      rw [begins_yes hq hk] at hb
      cases hb
theorem Pre.stop {ts : List (List UInt8)} {s : St} (h : s.wrong = m ∨ (s.wrong = -1 ∧ s.i = i0)) (hne : ts ≠ []) : Pre ps i0 m ts s := by
  rcases h with h | ⟨h1, h2⟩
  · exact .inl h
  · exact .inr ⟨h1, [], ts, rfl, hne, by simpa using h2, trivial⟩
theorem if_pre {g : Gt} (hg : GOk g) {ts : List (List UInt8)} {s : St} (hs : Stop ps n i0 m) (h : Pre ps i0 m ((if 0 < g.ifn then [[105, 102], itoa (g.ifn - 1), [58]] else []) ++ ([wordK g.kind] ++ ts)) s) :
    Pre ps i0 m ([wordK g.kind] ++ ts) (ifP ps n s).2 := by
  obtain ⟨w1, w2, w3, w4⟩ := word_all hg.kind
  by_cases hf : 0 < g.ifn
  · rw [if_pos hf] at h
    unfold ifP
    cases hb : beginsP ps n [105, 102] s
    · exact Pre.stop (begins_pre_yes h hb (by decide)) (by simp)
    · have a1 := (word_pre hs h (by decide)).1
      have a2 := (num_pre hs a1 (by omega) (by have := hg.ifn; omega)).1
      exact (word_pre hs a2 (by decide)).1
  · rw [if_neg hf] at h
    unfold ifP
    rw [begins_pre hs h (.inr w4)]
    exact h
theorem gate_pre {g : Gt} (hg : GOk g) {s : St} (hs : Stop ps n i0 m) (h : Pre ps i0 m (toksG g) s) : (gateP ps n s).2.wrong = m := by
  obtain ⟨w1, w2, w3, w4⟩ := word_all hg.kind
  have hlen := hg.len
  unfold toksG at h
  have h1 := if_pre hg hs h
  obtain ⟨h2, h3⟩ := take_pre (nd := isK) hs h1 w1.kind (fun a => by show decide (0 < kindW (wordK g.kind)) = true; rw [w3]; exact decide_eq_true (by have := hg.kind; omega))
  have hk2 : (kindP ps n (ifP ps n s).2).2 = (takeP ps n isK (ifP ps n s).2).2 := rfl
  have hk1 : (kindP ps n (ifP ps n s).2).1 = kindW (takeP ps n isK (ifP ps n s).2).1 := rfl
  rcases h3 with h3 | ⟨h3, _⟩
  · have h0 : 0 ≤ (takeP ps n isK (ifP ps n s).2).2.wrong := by omega
    unfold gateP
    dsimp only
    rw [hk2, wires_keep h0, bit_keep h0, take_keep h0]
    exact h3
  · rw [h3, w3] at hk1
    have h5 := wires_pre hs h2 hg.wires
    have ha : (arity (kindP ps n (ifP ps n s).2).1).toNat = g.wires.length := by rw [hk1, ← hlen]; rfl
    have h6 : Pre ps i0 m [[59]] (bitP ps n (kindP ps n (ifP ps n s).2).1 (wiresP ps n g.wires.length (kindP ps n (ifP ps n s).2).2).2).2 := by
      rw [hk1, hk2]
      unfold bitP
      by_cases h13 : g.kind = 13
      · rw [if_pos h13] at h5 ⊢
        exact (num_pre hs h5 hg.bit.1 hg.bit.2).1
      · rw [if_neg h13] at h5 ⊢
        exact h5
    have h7 := (word_pre hs h6 (by decide)).1.nil
    unfold gateP
    dsimp only
    rw [ha]
    exact h7
theorem gates_keep {s : St} (h : 0 ≤ s.wrong) : ∀ f, gatesP ps n f s = ([], [], s)
  | 0 => rfl
  | f + 1 => by rw [gatesP, if_pos (.inl h)]
theorem gate_one : GOk ⟨1, [0], 0, 0⟩ := ⟨by decide, by decide, by decide, by decide, fun _ => rfl, by decide⟩
theorem pre_len {a b c d : List (List UInt8)} (h : a ++ b = c ++ d) (hl : a.length ≤ c.length) : ∃ e, c = a ++ e ∧ b = e ++ d := by
  rcases List.append_eq_append_iff.1 h with ⟨e, h1, h2⟩ | ⟨e, h1, h2⟩
  · exact ⟨e, h1, h2⟩
  · have : e = [] := by
      have := congrArg List.length h1
      rw [List.length_append] at this
      exact List.length_eq_zero_iff.1 (by omega)
    subst this
    exact ⟨[], by simpa using h1.symm, by simpa using h2.symm⟩
theorem gates_pre : ∀ {gs : List Gt} {f i : Nat} {pre post : List (List UInt8)}, (∀ g ∈ gs, GOk g) → Stop ps n i0 m → gs.flatMap toksG = pre ++ post → i + pre.length = i0 → Seg ps i pre → pre.length < f →
    (gatesP ps n f ⟨i, -1⟩).2.2.wrong = m ∨ ((gatesP ps n f ⟨i, -1⟩).2.2.wrong = -1 ∧ ps.length = i0 ∧ ∃ gs1 gs2, gs = gs1 ++ gs2 ∧ pre = gs1.flatMap toksG ∧ (gatesP ps n f ⟨i, -1⟩).1 = gs1)
  | [], f, i, pre, post, _, hs, e, hi, hq, hf => by
    obtain ⟨f, rfl⟩ : ∃ k, f = k + 1 := ⟨f - 1, by omega⟩
    obtain ⟨rfl, rfl⟩ := List.append_eq_nil_iff.1 e.symm
    obtain rfl : i = i0 := by simpa using hi
    by_cases hl : i = ps.length
    · rw [gatesP, if_pos (.inr hl)]
      exact .inr ⟨rfl, hl.symm, [], [], rfl, rfl, rfl⟩
    · have h1 := gate_pre (n := n) gate_one hs (Pre.stop (s := ⟨i, -1⟩) (.inr ⟨rfl, rfl⟩) (by decide))
      rw [gatesP, if_neg (by rintro (h | h); exact absurd h (show ¬ (0 : Int) ≤ -1 by decide); exact hl h)]
      dsimp only
      rw [gates_keep (by omega)]
      exact .inl h1
  | g :: gs, f, i, pre, post, hg, hs, e, hi, hq, hf => by
    obtain ⟨f, rfl⟩ : ∃ k, f = k + 1 := ⟨f - 1, by omega⟩
    rw [List.flatMap_cons] at e
    by_cases hl : i = ps.length
    · cases pre with
      | nil =>
        rw [gatesP, if_pos (.inr hl)]
        exact .inr ⟨rfl, by rw [← hl]; simpa using hi, [], g :: gs, rfl, rfl, rfl⟩
      | cons t pre =>
        obtain ⟨⟨a, ha⟩, _⟩ := hq
        rw [hl, List.getElem?_eq_none (Nat.le_refl _)] at ha
        cases ha
    · rw [gatesP, if_neg (by rintro (h | h); exact absurd h (show ¬ (0 : Int) ≤ -1 by decide); exact hl h)]
      dsimp only
      by_cases hp : (toksG g).length ≤ pre.length
      · obtain ⟨pre2, rfl, e2⟩ := pre_len e hp
        rw [gate_seg (hg g (by simp)) hq]
        dsimp only
        rw [List.length_append] at hi
        have hq2 := hq.app.2
        rcases gates_pre (f := f) (fun x hx => hg x (by simp [hx])) hs e2 (by omega) hq2 (by have := toksG_pos g; rw [List.length_append] at hf; omega) with h | ⟨h1, h2, gs1, gs2, rfl, h3, h4⟩
        · exact .inl h
        · exact .inr ⟨h1, h2, g :: gs1, gs2, rfl, by rw [h3]; rfl, by rw [h4]⟩
      · obtain ⟨p2, e1, e2⟩ := pre_len e.symm (by omega)
        have h1 := gate_pre (n := n) (s := ⟨i, -1⟩) (hg g (by simp)) hs (.inr ⟨rfl, pre, p2, e1, by intro h0; subst h0; rw [List.append_nil] at e1; rw [e1] at hp; omega, hi, hq⟩)
        rw [gates_keep (by omega)]
        exact .inl h1
theorem head_pre {c : Ct} {b : Bool} (hw : 0 ≤ c.wires ∧ c.wires ≤ 999) (hb : 0 ≤ c.bits ∧ c.bits ≤ 999) (hs : Stop ps n i0 m) (h : Pre ps i0 m (toksH c b) ⟨0, -1⟩) : (headP ps n ⟨0, -1⟩).2.2.wrong = m := by
  unfold toksH at h
  have h1 := (word_pre (w := [119, 105, 114, 101, 115]) hs h (by decide)).1
  have h2 := (num_pre hs h1 hw.1 hw.2).1
  unfold headP
  dsimp only
  by_cases hz : 0 < c.bits ∨ b = true
  · rw [if_pos hz] at h2
    cases hbg : beginsP ps n [98, 105, 116, 115] (numP ps n (takeP ps n (isT [119, 105, 114, 101, 115]) ⟨0, -1⟩).2).2
    · exact (word_pre (w := [59]) hs (Pre.stop (begins_pre_yes h2 hbg (by decide)) (by simp)) (by decide)).1.nil
    · have h3 := (word_pre hs h2 (by decide)).1
      have h4 := (num_pre hs h3 hb.1 hb.2).1
      exact (word_pre hs h4 (by decide)).1.nil
  · rw [if_neg hz] at h2
    rw [begins_pre hs h2 (.inl (by decide))]
    exact (word_pre hs h2 (by decide)).1.nil
end
theorem partsN_bad : ∀ (l : List (List UInt8 × List UInt8)) (k f i : Nat) (g r : List UInt8), LaidOk k l → Closed g → (laidT l (g ++ 63 :: r)).length < f →
    partsN f i (laidT l (g ++ 63 :: r)) = partsT i l ++ [⟨i + (laidT l g).length, 0, [63], (i + (laidT l g).length : Nat)⟩]
  | [], _, f, i, g, r, _, hg, hf => by
    obtain ⟨f, rfl⟩ : ∃ k, f = k + 1 := ⟨f - 1, by omega⟩
    unfold partsN
    have h1 : lay false (laidT [] (g ++ 63 :: r)) = g.length := by
      show lay false (g ++ 63 :: r) = _
      rw [hg, lay_stop (by decide), Nat.add_zero]
    rw [h1]
    have h2 : (laidT [] (g ++ 63 :: r)).drop g.length = 63 :: r := by
      show (g ++ 63 :: r).drop g.length = _
      rw [List.drop_left]
    rw [h2]
    have h3 : nextP (i + g.length) (63 :: r) = ⟨i + g.length, 0, [63], (i + g.length : Nat)⟩ := by
      rw [nextP_cons, if_neg (by decide), if_neg (by decide), if_neg (by decide)]
    simp only [h3]
    rw [if_pos trivial]
    rfl
  | (g0, t) :: l, k, f, i, g, r, h, hg', hf => by
    obtain ⟨f, rfl⟩ : ∃ k, f = k + 1 := ⟨f - 1, by omega⟩
    obtain ⟨hg, ⟨c, ht⟩, _, hl⟩ := h
    have hn : (c = 1 → NoStart isL (laidT l (g ++ 63 :: r))) ∧ (c = 2 → NoStart isD (laidT l (g ++ 63 :: r))) := by
      rw [ht.cls] at hl
      cases l with
      | nil =>
        have key : ∀ b r', g ++ 63 :: r = b :: r' → isL b = false ∧ isD b = false := by
          intro b r' e
          cases g with
          | nil => injection e with e1 _; subst e1; decide
          | cons b0 g => injection e with e1 _; subst e1; have := isG_noL b0 (hg'.full.starts b0 g rfl); exact ⟨this.1, this.2.1⟩
        exact ⟨fun _ b r' e => (key b r' e).1, fun _ b r' e => (key b r' e).2⟩
      | cons p l =>
        obtain ⟨g1, t1⟩ := p
        have e : ∀ e' : List UInt8, Full e' → (c = 1 → NoStart isL (laidT ((g1, t1) :: l) e')) ∧ (c = 2 → NoStart isD (laidT ((g1, t1) :: l) e')) := fun e' he => laid_noL hl he
        obtain ⟨_, ⟨c1, ht1⟩, _⟩ := hl
        obtain ⟨b1, r1, rfl⟩ := ht1.ne
        have hh := e [] rfl
        refine ⟨fun hc b r' e2 => ?_, fun hc b r' e2 => ?_⟩
        · cases g1 with
          | nil => injection e2 with e3 _; subst e3; exact hh.1 hc b1 _ rfl
          | cons b0 g1 => injection e2 with e3 _; subst e3; exact hh.1 hc b0 _ rfl
        · cases g1 with
          | nil => injection e2 with e3 _; subst e3; exact hh.2 hc b1 _ rfl
          | cons b0 g1 => injection e2 with e3 _; subst e3; exact hh.2 hc b0 _ rfl
    obtain ⟨b, r0, rfl⟩ := ht.ne
    have hlay : lay false (laidT ((g0, b :: r0) :: l) (g ++ 63 :: r)) = g0.length := by
      show lay false (g0 ++ ((b :: r0) ++ laidT l (g ++ 63 :: r))) = _
      rw [hg, List.cons_append, lay_stop ht.noG, Nat.add_zero]
    have hdrop : (laidT ((g0, b :: r0) :: l) (g ++ 63 :: r)).drop g0.length = b :: (r0 ++ laidT l (g ++ 63 :: r)) := by
      show (g0 ++ ((b :: r0) ++ laidT l (g ++ 63 :: r))).drop g0.length = _
      rw [List.drop_left]; rfl
    have hnx := ht.next hn.1 hn.2 (i + g0.length)
    rw [List.cons_append] at hnx
    unfold partsN
    rw [hlay, hdrop]
    simp only [hnx]
    rw [if_neg ht.kind]
    show _ = (⟨i + g0.length, kindT (b :: r0), b :: r0, -1⟩ : Part) :: (partsT (i + g0.length + (b :: r0).length) l ++ _)
    congr 1
    have hd2 : (b :: (r0 ++ laidT l (g ++ 63 :: r))).drop (b :: r0).length = laidT l (g ++ 63 :: r) := by
      rw [← List.cons_append, List.drop_left]
    have hL : ∀ e : List UInt8, (laidT ((g0, b :: r0) :: l) e).length = g0.length + ((b :: r0).length + (laidT l e).length) := by
      intro e
      show (g0 ++ ((b :: r0) ++ laidT l e)).length = _
      rw [List.length_append, List.length_append]
    have h0 := hL (g ++ 63 :: r)
    rw [h0] at hf
    have ih := partsN_bad l (clsT (b :: r0)) f (i + g0.length + (b :: r0).length) g r hl hg' (by simp only [List.length_cons] at hf ⊢; omega)
    rw [hd2, ih, hL g]
    rw [show i + g0.length + (b :: r0).length + (laidT l g).length = i + (g0.length + ((b :: r0).length + (laidT l g).length)) by omega]
theorem seg_more {ps q : List Part} : ∀ {ts : List (List UInt8)} {i : Nat}, Seg ps i ts → Seg (ps ++ q) i ts
  | [], _, _ => trivial
  | t :: ts, i, ⟨⟨a, ha⟩, h⟩ => ⟨⟨a, by rw [List.getElem?_append_left (List.getElem?_eq_some_iff.1 ha).1]; exact ha⟩, seg_more h⟩
theorem laidOk_take : ∀ {l : List (List UInt8 × List UInt8)} {k : Nat} (j : Nat), LaidOk k l → LaidOk k (l.take j)
  | [], _, j, _ => by rw [List.take_nil]; trivial
  | _ :: _, _, 0, _ => trivial
  | (g, t) :: l, k, j + 1, ⟨h1, h2, h3, h4⟩ => ⟨h1, h2, h3, laidOk_take j h4⟩
theorem toksH_end (c : Ct) (b : Bool) : ∃ x, toksH c b = x ++ [[59]] := ⟨[[119, 105, 114, 101, 115], itoa c.wires] ++ (if 0 < c.bits ∨ b = true then [[98, 105, 116, 115], itoa c.bits] else []), by unfold toksH; rw [List.append_assoc]⟩
theorem toksG_end (g : Gt) : ∃ x, toksG g = x ++ [[59]] := ⟨_, by unfold toksG; rw [← List.append_assoc, ← List.append_assoc, ← List.append_assoc]⟩
theorem toks_end (c : Ct) (b : Bool) : ∀ (gs : List Gt), ∃ x, toksH c b ++ gs.flatMap toksG = x ++ [[59]] := by
  intro gs
  rcases List.eq_nil_or_concat gs with rfl | ⟨gs, g, rfl⟩
  · obtain ⟨x, hx⟩ := toksH_end c b
    exact ⟨x, by rw [hx]; simp⟩
  · obtain ⟨x, hx⟩ := toksG_end g
    exact ⟨toksH c b ++ gs.flatMap toksG ++ x, by rw [List.concat_eq_append, List.flatMap_append, List.flatMap_cons, List.flatMap_nil, List.append_nil, hx]; simp⟩
section
variable {ps : List Part} {n i0 m : Nat}
theorem core_pre {c : Ct} {b : Bool} {f : Nat} {pre post : List (List UInt8)} (hc : chkC c = 0) (hs : Stop ps n i0 m) (e : toksAll c b = pre ++ post) (hi : pre.length = i0) (hq : Seg ps 0 pre) (hf : pre.length < f) :
    (gatesP ps n f (headP ps n ⟨0, -1⟩).2.2).2.2.wrong = m ∨ ((gatesP ps n f (headP ps n ⟨0, -1⟩).2.2).2.2.wrong = -1 ∧ ps.length = i0 ∧ (∃ x, pre = x ++ [[59]]) ∧ (gatesP ps n f (headP ps n ⟨0, -1⟩).2.2).1.length ≤ c.gates.length) := by
  obtain ⟨h1, h2, h3, h4⟩ := chkC_ok hc
  unfold toksAll at e
  by_cases hp : (toksH c b).length ≤ pre.length
  · obtain ⟨pre2, rfl, e2⟩ := pre_len e hp
    rw [head_seg (n := n) (c := c) (b := b) ⟨by omega, by omega⟩ ⟨by omega, by omega⟩ hq]
    dsimp only
    have hq2 := hq.app.2
    rw [Nat.zero_add] at hq2
    rw [List.length_append] at hi
    rcases gates_pre (f := f) h4 hs e2 hi hq2 (by rw [List.length_append] at hf; omega) with h | ⟨a1, a2, gs1, gs2, a3, a4, a5⟩
    · exact .inl h
    · refine .inr ⟨a1, a2, ?_, ?_⟩
      · rw [a4]; exact toks_end c b gs1
      · rw [a5, a3, List.length_append]; omega
  · obtain ⟨p2, e1, e2⟩ := pre_len e.symm (by omega)
    have h5 := head_pre (n := n) (c := c) (b := b) ⟨by omega, by omega⟩ ⟨by omega, by omega⟩ hs (.inr ⟨rfl, pre, p2, e1, by intro h0; subst h0; rw [List.append_nil] at e1; rw [e1] at hp; omega, by dsimp only; omega, hq⟩)
    rw [gates_keep (by omega)]
    exact .inl h5
end
theorem sRead_cut {c : Ct} {b : Bool} {l : List (List UInt8 × List UInt8)} {k : Nat} (hc : chkC c = 0) (hl : LaidOk 0 l) (ht : l.map (·.2) = toksAll c b) (hk : k ≤ l.length) (hk0 : 0 < k) (hn : (laidT (l.take k) []).length ≤ 65536) :
    ((sRead (laidT (l.take k) [])).2.2.2 ≠ 0 → (sRead (laidT (l.take k) [])).2.2.1 = (laidT (l.take k) []).length) ∧
    ((sRead (laidT (l.take k) [])).2.2.2 = 0 → (sRead (laidT (l.take k) [])).1.gates.length ≤ c.gates.length ∧ (toksAll c b)[k - 1]? = some [59]) := by
  have hp := partsP_laid (laidOk_take k hl) (e := []) rfl
  have hpl : (partsT 0 (l.take k)).length = k := by rw [partsT_len, List.length_take]; omega
  have hs : Seg (partsT 0 (l.take k)) 0 ((toksAll c b).take k) := by
    have := seg_parts (l.take k) 0 []
    rw [List.map_take, ht] at this
    exact this
  have htl : (toksAll c b).length = l.length := by rw [← ht, List.length_map]
  have hst : Stop (partsT 0 (l.take k)) (laidT (l.take k) []).length k (laidT (l.take k) []).length := by
    unfold Stop lookP
    rw [List.getD_eq_getElem?_getD, List.getElem?_eq_none (by omega)]
    exact ⟨rfl, rfl⟩
  have hkl : ((toksAll c b).take k).length = k := by rw [List.length_take]; omega
  have core := core_pre (c := c) (b := b) (f := (partsT 0 (l.take k)).length + 1) hc hst (List.take_append_drop k (toksAll c b)).symm hkl hs (by omega)
  have hrd : sRead (laidT (l.take k) []) = if 0 ≤ (gatesP (partsT 0 (l.take k)) (laidT (l.take k) []).length ((partsT 0 (l.take k)).length + 1) (headP (partsT 0 (l.take k)) (laidT (l.take k) []).length ⟨0, -1⟩).2.2).2.2.wrong then (Ct.zero, [], (gatesP (partsT 0 (l.take k)) (laidT (l.take k) []).length ((partsT 0 (l.take k)).length + 1) (headP (partsT 0 (l.take k)) (laidT (l.take k) []).length ⟨0, -1⟩).2.2).2.2.wrong, 4)
    else if chkC ⟨(headP (partsT 0 (l.take k)) (laidT (l.take k) []).length ⟨0, -1⟩).1, (headP (partsT 0 (l.take k)) (laidT (l.take k) []).length ⟨0, -1⟩).2.1, (gatesP (partsT 0 (l.take k)) (laidT (l.take k) []).length ((partsT 0 (l.take k)).length + 1) (headP (partsT 0 (l.take k)) (laidT (l.take k) []).length ⟨0, -1⟩).2.2).1⟩ ≠ 0 then (Ct.zero, [], ((laidT (l.take k) []).length : Int), chkC ⟨(headP (partsT 0 (l.take k)) (laidT (l.take k) []).length ⟨0, -1⟩).1, (headP (partsT 0 (l.take k)) (laidT (l.take k) []).length ⟨0, -1⟩).2.1, (gatesP (partsT 0 (l.take k)) (laidT (l.take k) []).length ((partsT 0 (l.take k)).length + 1) (headP (partsT 0 (l.take k)) (laidT (l.take k) []).length ⟨0, -1⟩).2.2).1⟩)
    else (⟨(headP (partsT 0 (l.take k)) (laidT (l.take k) []).length ⟨0, -1⟩).1, (headP (partsT 0 (l.take k)) (laidT (l.take k) []).length ⟨0, -1⟩).2.1, (gatesP (partsT 0 (l.take k)) (laidT (l.take k) []).length ((partsT 0 (l.take k)).length + 1) (headP (partsT 0 (l.take k)) (laidT (l.take k) []).length ⟨0, -1⟩).2.2).1⟩, (gatesP (partsT 0 (l.take k)) (laidT (l.take k) []).length ((partsT 0 (l.take k)).length + 1) (headP (partsT 0 (l.take k)) (laidT (l.take k) []).length ⟨0, -1⟩).2.2).2.1, 0, 0) := by
    unfold sRead
    rw [if_neg (by omega), hp]
  rw [hrd]
  generalize headP (partsT 0 (l.take k)) (laidT (l.take k) []).length ⟨0, -1⟩ = H at *
  generalize gatesP (partsT 0 (l.take k)) (laidT (l.take k) []).length ((partsT 0 (l.take k)).length + 1) H.2.2 = G at *
  rcases core with h | ⟨h1, _, ⟨x, hx⟩, h3⟩
  · rw [if_pos (by omega)]
    exact ⟨fun _ => h, fun h0 => absurd h0 (show ¬ (4 : Int) = 0 by decide)⟩
  · rw [if_neg (by omega)]
    split
    · exact ⟨fun _ => rfl, fun h0 => absurd h0 (by assumption)⟩
    · refine ⟨fun h0 => absurd rfl h0, fun _ => ⟨h3, ?_⟩⟩
      have hxl : x.length = k - 1 := by have := congrArg List.length hx; rw [hkl, List.length_append] at this; simp at this; omega
      have e : ((toksAll c b).take k)[k - 1]? = (toksAll c b)[k - 1]? := by rw [List.getElem?_take, if_pos (by omega)]
      rw [← e, hx, List.getElem?_append_right (by omega), hxl, Nat.sub_self]
      rfl
theorem sRead_bad {c : Ct} {b : Bool} {l : List (List UInt8 × List UInt8)} {k : Nat} {g r : List UInt8} (hc : chkC c = 0) (hl : LaidOk 0 l) (hg : Closed g) (ht : l.map (·.2) = toksAll c b) (hk : k ≤ l.length) (hn : (laidT (l.take k) (g ++ 63 :: r)).length ≤ 65536) :
    sRead (laidT (l.take k) (g ++ 63 :: r)) = (Ct.zero, [], ((laidT (l.take k) g).length : Int), 4) := by
  have hp : partsP (laidT (l.take k) (g ++ 63 :: r)) = partsT 0 (l.take k) ++ [⟨(laidT (l.take k) g).length, 0, [63], ((laidT (l.take k) g).length : Nat)⟩] := by
    have := partsN_bad (l.take k) 0 ((laidT (l.take k) (g ++ 63 :: r)).length + 1) 0 g r (laidOk_take k hl) hg (Nat.lt_succ_self _)
    rw [Nat.zero_add] at this
    exact this
  have hpl : (partsT 0 (l.take k)).length = k := by rw [partsT_len, List.length_take]; omega
  have htl : (toksAll c b).length = l.length := by rw [← ht, List.length_map]
  have hkl : ((toksAll c b).take k).length = k := by rw [List.length_take]; omega
  have hs : Seg (partsT 0 (l.take k) ++ [⟨(laidT (l.take k) g).length, 0, [63], ((laidT (l.take k) g).length : Nat)⟩]) 0 ((toksAll c b).take k) := by
    have := seg_parts (l.take k) 0 []
    rw [List.map_take, ht] at this
    exact seg_more this
  have hst : Stop (partsT 0 (l.take k) ++ [⟨(laidT (l.take k) g).length, 0, [63], ((laidT (l.take k) g).length : Nat)⟩]) (laidT (l.take k) (g ++ 63 :: r)).length k (laidT (l.take k) g).length := by
    unfold Stop lookP
    rw [List.getD_eq_getElem?_getD, List.getElem?_append_right (by omega), hpl, Nat.sub_self]
    exact ⟨rfl, rfl⟩
  have core := core_pre (c := c) (b := b) (f := (partsT 0 (l.take k) ++ [(⟨(laidT (l.take k) g).length, 0, [63], ((laidT (l.take k) g).length : Nat)⟩ : Part)]).length + 1) hc hst (List.take_append_drop k (toksAll c b)).symm hkl hs (by rw [List.length_append]; omega)
  rcases core with h | ⟨_, h2, _⟩
  · unfold sRead
    rw [if_neg (by omega), hp]
    dsimp only
    rw [if_pos (by rw [h]; omega), h]
  · rw [List.length_append, hpl] at h2
    simp at h2
end Go.Proofs.YtonnegkpjmhomaaGreatDoor
end
