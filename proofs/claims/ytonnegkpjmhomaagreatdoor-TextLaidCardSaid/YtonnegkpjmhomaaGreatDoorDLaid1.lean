import Derived.Lib.ItoaNum
import Derived.Test.YtonnegkpjmhomaaGreatDoorDLaid0
set_option linter.all false
section
namespace Go.Proofs.YtonnegkpjmhomaaGreatDoor
structure Gt where
  kind : Int
  wires : List Int
  bit : Int
  ifn : Int
deriving DecidableEq
structure Ct where
  wires : Int
  bits : Int
  gates : List Gt
deriving DecidableEq
def Ct.zero : Ct := ⟨0, 0, []⟩
def arity (k : Int) : Int := if k = 12 then 3 else if 9 ≤ k ∧ k ≤ 11 then 2 else if 1 ≤ k ∧ k ≤ 14 then 1 else 0
def dupF : List Int → List Int → Bool
  | _, [] => false
  | pre, x :: l => pre.contains x || dupF (pre ++ [x]) l
def dupI (l : List Int) : Bool := dupF [] l
def wireB (wires n : Int) : Bool := decide (0 ≤ n) && decide (n < wires)
def chkG (wires bits : Int) (g : Gt) : Int :=
  if arity g.kind = 0 then 3
  else if (g.wires.length : Int) ≠ arity g.kind then 2
  else if g.wires.all (wireB wires) = false then 1
  else if dupI g.wires then 5
  else if g.ifn < 0 ∨ bits < g.ifn ∨ (g.kind = 13 ∧ (g.bit < 0 ∨ bits ≤ g.bit)) then 1
  else if ((g.kind = 13 ∨ g.kind = 14) ∧ g.ifn ≠ 0) ∨ (g.kind ≠ 13 ∧ g.bit ≠ 0) then 7
  else 0
def chkGs (wires bits : Int) : List Gt → Int
  | [] => 0
  | g :: l => if chkG wires bits g = 0 then chkGs wires bits l else chkG wires bits g
def chkC (c : Ct) : Int :=
  if c.wires < 1 ∨ 12 < c.wires ∨ c.bits < 0 ∨ 8 < c.bits then 3
  else if 120 < c.gates.length then 2
  else chkGs c.wires c.bits c.gates
def wordTab : List (List UInt8 × Int) :=
  [([120], 1), ([121], 2), ([122], 3), ([104], 4), ([115], 5), ([115, 100], 6), ([116], 7), ([116, 100], 8), ([99, 120], 9), ([99, 122], 10), ([115, 119, 97, 112], 11), ([99, 99, 120], 12), ([109, 101, 97, 115, 117, 114, 101], 13), ([114, 101, 115, 101, 116], 14)]
def kindW (s : List UInt8) : Int := ((wordTab.find? (fun p => p.1 == s)).map (·.2)).getD 0
def wordK (k : Int) : List UInt8 := ((wordTab.find? (fun p => p.2 == k)).map (·.1)).getD []
structure St where
  i : Nat
  wrong : Int
deriving DecidableEq
section
variable (ps : List Part) (n : Nat)
def lookP (i : Nat) : Part := ps.getD i ⟨n, 0, [], -1⟩
def takeP (nd : Part → Bool) (s : St) : List UInt8 × St :=
  if 0 ≤ s.wrong then ([], s)
  else if (lookP ps n s.i).kind = 0 ∨ nd (lookP ps n s.i) = false then ([], ⟨s.i, (lookP ps n s.i).at_⟩)
  else if 0 ≤ (lookP ps n s.i).wrong then ([], ⟨s.i, (lookP ps n s.i).wrong⟩)
  else ((lookP ps n s.i).text, ⟨s.i + 1, s.wrong⟩)
def isT (t : List UInt8) (p : Part) : Bool := p.text == t
def isN (p : Part) : Bool := p.kind == 2
def isK (p : Part) : Bool := decide (0 < kindW p.text)
def numV (l : List UInt8) : Nat := l.foldl (fun n c => 10 * n + (c - 48).toNat) 0
def numP (s : St) : Int × St := ((numV (takeP ps n isN s).1 : Int), (takeP ps n isN s).2)
def beginsP (t : List UInt8) (s : St) : Bool := decide (s.wrong < 0) && ((lookP ps n s.i).kind == 1 && (lookP ps n s.i).text == t)
def wiresP : Nat → St → List Int × St
  | 0, s => ([], s)
  | k + 1, s => ((numP ps n s).1 :: (wiresP k (numP ps n s).2).1, (wiresP k (numP ps n s).2).2)
def ifP (s : St) : Int × St :=
  if beginsP ps n [105, 102] s then
    ((numP ps n (takeP ps n (isT [105, 102]) s).2).1 + 1, (takeP ps n (isT [58]) (numP ps n (takeP ps n (isT [105, 102]) s).2).2).2)
  else (0, s)
def kindP (s : St) : Int × St := (kindW (takeP ps n isK s).1, (takeP ps n isK s).2)
def bitP (k : Int) (s : St) : Int × St := if k = 13 then numP ps n s else (0, s)
def gateP (s : St) : Gt × St :=
  let a := ifP ps n s
  let b := kindP ps n a.2
  let c := wiresP ps n (arity b.1).toNat b.2
  let d := bitP ps n b.1 c.2
  (⟨b.1, c.1, d.1, a.1⟩, (takeP ps n (isT [59]) d.2).2)
def spanP (s : St) : Nat × Nat := ((lookP ps n s.i).at_, (lookP ps n ((gateP ps n s).2.i - 1)).at_ + 1)
def gatesP : Nat → St → List Gt × List (Nat × Nat) × St
  | 0, s => ([], [], s)
  | f + 1, s =>
    if 0 ≤ s.wrong ∨ s.i = ps.length then ([], [], s)
    else
      let r := gatesP f (gateP ps n s).2
      ((gateP ps n s).1 :: r.1, if 0 ≤ (gateP ps n s).2.wrong then r.2.1 else spanP ps n s :: r.2.1, r.2.2)
def headP (s : St) : Int × Int × St :=
  let a := (takeP ps n (isT [119, 105, 114, 101, 115]) s).2
  let b := numP ps n a
  let c := if beginsP ps n [98, 105, 116, 115] b.2 then numP ps n (takeP ps n (isT [98, 105, 116, 115]) b.2).2 else (0, b.2)
  (b.1, c.1, (takeP ps n (isT [59]) c.2).2)
end
def sRead (l : List UInt8) : Ct × List (Nat × Nat) × Int × Int :=
  if 65536 < l.length then (Ct.zero, [], 0, 11)
  else
    let ps := partsP l
    let h := headP ps l.length ⟨0, -1⟩
    let g := gatesP ps l.length (ps.length + 1) h.2.2
    if 0 ≤ g.2.2.wrong then (Ct.zero, [], g.2.2.wrong, 4)
    else if chkC ⟨h.1, h.2.1, g.1⟩ ≠ 0 then (Ct.zero, [], l.length, chkC ⟨h.1, h.2.1, g.1⟩)
    else (⟨h.1, h.2.1, g.1⟩, g.2.1, 0, 0)
abbrev itoa (n : Int) : List UInt8 := Lib.itoa n
def shownP (g : Gt) : List UInt8 :=
  (if 0 < g.ifn then [105, 102, 32] ++ itoa (g.ifn - 1) ++ [58, 32] else []) ++ wordK g.kind ++ (g.wires.flatMap (fun w => 32 :: itoa w)) ++ (if g.kind = 13 then 32 :: itoa g.bit else []) ++ [59]
def printP (c : Ct) : List UInt8 :=
  [119, 105, 114, 101, 115, 32] ++ itoa c.wires ++ (if 0 < c.bits then [32, 98, 105, 116, 115, 32] ++ itoa c.bits else []) ++ [59, 10] ++ c.gates.flatMap (fun g => shownP g ++ [10])
def sPrint (c : Ct) : List UInt8 × Int := if chkC c = 0 then (printP c, 0) else ([], chkC c)
def sTidy (l : List UInt8) : List UInt8 × Int × Int :=
  if (sRead l).2.2.2 = 0 then ((sPrint (sRead l).1).1, 0, (sPrint (sRead l).1).2) else ([], (sRead l).2.2.1, (sRead l).2.2.2)
def sWhere (l : List UInt8) (k : Int) : Int × Int × Int :=
  if (sRead l).2.2.2 ≠ 0 then (0, 0, (sRead l).2.2.2)
  else if k < 0 ∨ ((sRead l).2.1.length : Int) ≤ k then (0, 0, 1)
  else ((((sRead l).2.1.getD k.toNat (0, 0)).1 : Int), (((sRead l).2.1.getD k.toNat (0, 0)).2 : Int), 0)
def sChanged (l : List UInt8) : List UInt8 × Int := if (sRead l).2.2.2 ≠ 0 then ([], (sRead l).2.2.2) else (l, 0)
def sPut (l : List UInt8) (k : Int) (u : List UInt8) : List UInt8 × Int :=
  if (sWhere l k).2.2 ≠ 0 then ([], (sWhere l k).2.2) else sChanged (l.take (sWhere l k).1.toNat ++ u ++ l.drop (sWhere l k).2.1.toNat)
def placeP : Int → Int → Int → List UInt8 → Int × Int
  | line, from_, _, [] => (line, from_)
  | line, from_, i, b :: l => if b = 10 then placeP (line + 1) (i + 1) (i + 1) l else placeP line from_ (i + 1) l
def sPlace (l : List UInt8) (k : Int) : Int × Int × Int :=
  if 65536 < l.length then (0, 0, 11)
  else if k < 0 ∨ (l.length : Int) < k then (0, 0, 3)
  else ((placeP 1 0 0 (l.take k.toNat)).1, k - (placeP 1 0 0 (l.take k.toNat)).2 + 1, 0)
end Go.Proofs.YtonnegkpjmhomaaGreatDoor
end
section
namespace Go.Proofs.YtonnegkpjmhomaaGreatDoor
structure Rr where
  at_ : Nat
  kind : Nat
  text : List UInt8
  wrong : Int
  none : Bool
deriving DecidableEq
def cutR (d : Nat) (al : List UInt8) (i : Nat) : List UInt8 → Nat × List UInt8 × Int
  | [] => (0, [], i)
  | c :: l =>
    if isL c then (1, ((c :: l).takeWhile isL).take 8, if 8 < ((c :: l).takeWhile isL).length then (i : Int) + 8 else -1)
    else if isD c then
      (2, if c = 48 then [48] else ((c :: l).takeWhile isD).take d, if c = 48 then (if 1 < ((c :: l).takeWhile isD).length then (i : Int) + 1 else -1) else if d < ((c :: l).takeWhile isD).length then (i : Int) + d else -1)
    else if al.contains c then (c.toNat, [c], -1)
    else (0, [], i)
theorem cutR_cons (d : Nat) (al : List UInt8) (i : Nat) (c : UInt8) (l : List UInt8) : cutR d al i (c :: l) =
    if isL c then (1, ((c :: l).takeWhile isL).take 8, if 8 < ((c :: l).takeWhile isL).length then (i : Int) + 8 else -1)
    else if isD c then
      (2, if c = 48 then [48] else ((c :: l).takeWhile isD).take d, if c = 48 then (if 1 < ((c :: l).takeWhile isD).length then (i : Int) + 1 else -1) else if d < ((c :: l).takeWhile isD).length then (i : Int) + d else -1)
    else if al.contains c then (c.toNat, [c], -1)
    else (0, [], i) := rfl
section
variable (d : Nat) (al l : List UInt8)
def readAt (i : Nat) : Rr :=
  if i + lay false (l.drop i) = l.length then ⟨i + lay false (l.drop i), 0, [], -1, true⟩
  else ⟨i + lay false (l.drop i), (cutR d al (i + lay false (l.drop i)) (l.drop (i + lay false (l.drop i)))).1, (cutR d al (i + lay false (l.drop i)) (l.drop (i + lay false (l.drop i)))).2.1, (cutR d al (i + lay false (l.drop i)) (l.drop (i + lay false (l.drop i)))).2.2, false⟩
def nextR (r : Rr) : Rr := readAt d al l (r.at_ + r.text.length)
structure Fm where
  r : Rr
  wrong : Int
deriving DecidableEq
def takesB (k : Nat) (ws : List (List UInt8)) (r : Rr) : Bool :=
  !r.none && r.kind == k && (decide (k ≤ 2) || !r.text.isEmpty) && (ws.isEmpty || ws.any (fun w => w == r.text && decide (r.wrong < 0)))
def takesR (k : Nat) (ws : List (List UInt8)) (f : Fm) : Fm :=
  if 0 ≤ f.wrong then f
  else if takesB k ws f.r = false then ⟨f.r, f.r.at_⟩
  else if 0 ≤ f.r.wrong then ⟨f.r, f.r.wrong⟩
  else ⟨nextR d al l f.r, f.wrong⟩
end
theorem cutR_next (i : Nat) (c : UInt8) (l : List UInt8) :
    (cutR 3 [58, 59] i (c :: l)).1 = (nextP i (c :: l)).kind ∧ (cutR 3 [58, 59] i (c :: l)).2.2 = (nextP i (c :: l)).wrong ∧
    ((nextP i (c :: l)).wrong < 0 → (cutR 3 [58, 59] i (c :: l)).2.1 = (nextP i (c :: l)).text) ∧ ((nextP i (c :: l)).kind = 0 → (nextP i (c :: l)).wrong = i) := by
  rw [cutR_cons, nextP_cons]
  by_cases h1 : isL c = true
  · rw [if_pos h1, if_pos h1]
    refine ⟨rfl, rfl, fun h => ?_, fun h => by simp at h⟩
    show List.take 8 _ = _
    rw [List.take_of_length_le]
    simp only at h
    split at h <;> omega
  · rw [if_neg h1, if_neg h1]
    by_cases h2 : isD c = true
    · rw [if_pos h2, if_pos h2]
      have hp : 0 < ((c :: l).takeWhile isD).length := takeWhile_ne h2
      by_cases h3 : c = 48
      · subst h3
        have hw : (48 :: l).takeWhile isD = 48 :: l.takeWhile isD := List.takeWhile_cons_of_pos h2
        by_cases h4 : 1 < ((48 :: l).takeWhile isD).length
        · refine ⟨rfl, ?_, fun h => ?_, fun h => by simp at h⟩
          · show (if (48 : UInt8) = 48 then (if 1 < ((48 :: l).takeWhile isD).length then (i : Int) + 1 else -1) else if 3 < ((48 :: l).takeWhile isD).length then (i : Int) + 3 else -1) = (if (48 : UInt8) = 48 ∧ 1 < ((48 :: l).takeWhile isD).length then (i : Int) + 1 else if 3 < ((48 :: l).takeWhile isD).length then (i : Int) + 3 else -1)
            rw [if_pos rfl, if_pos h4, if_pos ⟨rfl, h4⟩]
          · have h : (if (48 : UInt8) = 48 ∧ 1 < ((48 :: l).takeWhile isD).length then (i : Int) + 1 else if 3 < ((48 :: l).takeWhile isD).length then (i : Int) + 3 else -1) < 0 := h
            rw [if_pos ⟨rfl, h4⟩] at h
            omega
        · refine ⟨rfl, ?_, fun h => ?_, fun h => by simp at h⟩
          · show (if (48 : UInt8) = 48 then (if 1 < ((48 :: l).takeWhile isD).length then (i : Int) + 1 else -1) else if 3 < ((48 :: l).takeWhile isD).length then (i : Int) + 3 else -1) = (if (48 : UInt8) = 48 ∧ 1 < ((48 :: l).takeWhile isD).length then (i : Int) + 1 else if 3 < ((48 :: l).takeWhile isD).length then (i : Int) + 3 else -1)
            rw [if_pos rfl, if_neg h4, if_neg (fun h => h4 h.2), if_neg (by omega)]
          · show (if (48 : UInt8) = 48 then [48] else ((48 :: l).takeWhile isD).take 3) = _
            rw [if_pos rfl]
            show _ = (48 :: l).takeWhile isD
            rw [hw] at h4 ⊢
            rw [List.eq_nil_of_length_eq_zero (l := l.takeWhile isD) (by simp only [List.length_cons] at h4; omega)]
      · refine ⟨rfl, by simp [h3], fun h => ?_, fun h => by simp at h⟩
        simp only [h3, false_and, if_false] at h ⊢
        rw [List.take_of_length_le]
        split at h <;> omega
    · rw [if_neg h2, if_neg h2]
      by_cases h3 : isS c = true
      · have h4 : List.contains [58, 59] c = true := by simpa [isS] using h3
        rw [if_pos h3, if_pos h4]
        refine ⟨rfl, rfl, fun _ => rfl, fun h => ?_⟩
        simp [isS] at h3
        rcases h3 with rfl | rfl <;> simp at h
      · have h4 : ¬ List.contains [58, 59] c = true := by simpa [isS] using h3
        rw [if_neg h3, if_neg h4]
        exact ⟨rfl, rfl, fun h => by simp at h; omega, fun _ => rfl⟩
def Left (l : List UInt8) (pos : Nat) (q : List Part) : Prop := ∃ f, (l.drop pos).length < f ∧ pos ≤ l.length ∧ q = partsN f pos (l.drop pos)
theorem left_start (l : List UInt8) : Left l 0 (partsP l) := ⟨l.length + 1, by simp, by simp, rfl⟩
theorem left_look {l : List UInt8} {pos : Nat} {q : List Part} (h : Left l pos q) :
    (q = [] ∧ readAt 3 [58, 59] l pos = ⟨l.length, 0, [], -1, true⟩) ∨
    ∃ p q' x, q = p :: q' ∧ readAt 3 [58, 59] l pos = ⟨p.at_, p.kind, x, p.wrong, false⟩ ∧ p.at_ < l.length ∧ (p.wrong < 0 → x = p.text) ∧ (p.kind = 0 → p.wrong = p.at_) ∧ (p.wrong < 0 → Left l (p.at_ + p.text.length) q') ∧ ∃ i c r, p = nextP i (c :: r) := by
  obtain ⟨f, hf, hp, rfl⟩ := h
  obtain ⟨g, rfl⟩ : ∃ g, f = g + 1 := ⟨f - 1, by omega⟩
  have hle := lay_le false (l.drop pos)
  have hlen : (l.drop pos).length = l.length - pos := List.length_drop
  have hdd : l.drop (pos + lay false (l.drop pos)) = (l.drop pos).drop (lay false (l.drop pos)) := by rw [List.drop_drop]
  unfold partsN readAt
  cases hc : (l.drop pos).drop (lay false (l.drop pos)) with
  | nil =>
    have hz : (l.drop pos).length - lay false (l.drop pos) = 0 := by rw [← List.length_drop, hc]; rfl
    refine .inl ⟨rfl, ?_⟩
    rw [if_pos (by omega)]
    congr 1
    omega
  | cons c r =>
    have hz : (l.drop pos).length - lay false (l.drop pos) = r.length + 1 := by rw [← List.length_drop, hc]; rfl
    rw [hdd, hc, if_neg (by omega)]
    obtain ⟨h1, h2, h3, h4⟩ := cutR_next (pos + lay false (l.drop pos)) c r
    have hat := nextP_at (pos + lay false (l.drop pos)) (c :: r)
    have htl := nextP_le (pos + lay false (l.drop pos)) (c :: r)
    have htp := nextP_pos (pos + lay false (l.drop pos)) c r
    have hform : ∃ i c' r', nextP (pos + lay false (l.drop pos)) (c :: r) = nextP i (c' :: r') := ⟨_, _, _, rfl⟩
    simp only []
    generalize nextP (pos + lay false (l.drop pos)) (c :: r) = p at *
    refine .inr ⟨p, if p.kind = 0 then [] else partsN g (p.at_ + p.text.length) ((c :: r).drop p.text.length), (cutR 3 [58, 59] (pos + lay false (l.drop pos)) (c :: r)).2.1, by split <;> rfl, ?_, by omega, h3, fun h => by rw [h4 h, hat], fun h => ?_, hform⟩
    · rw [h1, h2, hat]
    · have hk : p.kind ≠ 0 := fun h0 => by have := h4 h0; omega
      simp only [List.length_cons] at htl
      refine ⟨g, ?_, by omega, ?_⟩
      · rw [List.length_drop]; omega
      · rw [if_neg hk, ← hc, hat, List.drop_drop, List.drop_drop, Nat.add_assoc]
end Go.Proofs.YtonnegkpjmhomaaGreatDoor
end
section
namespace Go.Proofs.YtonnegkpjmhomaaGreatDoor
theorem kindW_mem {t : List UInt8} : 0 < kindW t ↔ t ∈ wordTab.map (·.1) := by
  constructor
  · intro h
    unfold kindW at h
    cases hf : wordTab.find? (fun p => p.1 == t) with
    | none => rw [hf] at h; simp at h
    | some p =>
      have h1 := List.find?_some hf
      have h2 := List.mem_of_find?_eq_some hf
      exact List.mem_map.2 ⟨p, h2, by simpa using h1⟩
  · intro h
    simp only [wordTab, List.map_cons, List.map_nil, List.mem_cons, List.not_mem_nil, or_false] at h
    rcases h with rfl | rfl | rfl | rfl | rfl | rfl | rfl | rfl | rfl | rfl | rfl | rfl | rfl | rfl <;> decide
section
variable (l : List UInt8)
abbrev tk (k : Nat) (ws : List (List UInt8)) (f : Fm) : Fm := takesR 3 [58, 59] l k ws f
end
structure Sim (l : List UInt8) (ps : List Part) (f : Fm) (s : St) : Prop where
  wrong : f.wrong = s.wrong
  lo : -1 ≤ s.wrong
  at_ : s.wrong < 0 → s.i ≤ ps.length ∧ ∃ pos, Left l pos (ps.drop s.i) ∧ f.r = readAt 3 [58, 59] l pos
theorem Sim.look {l : List UInt8} {ps : List Part} {f : Fm} {s : St} (h : Sim l ps f s) (hw : s.wrong < 0) :
    (s.i = ps.length ∧ lookP ps l.length s.i = ⟨l.length, 0, [], -1⟩ ∧ f.r = ⟨l.length, 0, [], -1, true⟩) ∨
    (s.i < ps.length ∧ ∃ p x, lookP ps l.length s.i = p ∧ f.r = ⟨p.at_, p.kind, x, p.wrong, false⟩ ∧ p.at_ < l.length ∧ (p.wrong < 0 → x = p.text) ∧ (p.kind = 0 → p.wrong = p.at_) ∧
      (p.wrong < 0 → Sim l ps ⟨nextR 3 [58, 59] l f.r, f.wrong⟩ ⟨s.i + 1, s.wrong⟩) ∧ ∃ i c r, p = nextP i (c :: r)) := by
  obtain ⟨hi, pos, hl, hr⟩ := h.at_ hw
  rcases left_look hl with ⟨h0, h1⟩ | ⟨p, q', x, h0, h1, h2, h3, h4, h5, h6⟩
  · have hlen := congrArg List.length h0
    rw [List.length_drop] at hlen
    simp only [List.length_nil] at hlen
    refine .inl ⟨by omega, ?_, by rw [hr, h1]⟩
    unfold lookP
    rw [List.getD_eq_getElem?_getD, List.getElem?_eq_none (by omega)]; rfl
  · have hlen := congrArg List.length h0
    rw [List.length_drop] at hlen
    simp only [List.length_cons] at hlen
    have hlt : s.i < ps.length := by omega
    have hd := List.drop_eq_getElem_cons hlt
    rw [h0] at hd
    injection hd with hp hq
    refine .inr ⟨hlt, p, x, ?_, by rw [hr, h1], h2, h3, h4, fun hpw => ⟨h.wrong, h.lo, fun _ => ⟨by show s.i + 1 ≤ _; omega, p.at_ + p.text.length, by rw [← hq]; exact h5 hpw, ?_⟩⟩, h6⟩
    · unfold lookP
      rw [List.getD_eq_getElem?_getD, List.getElem?_eq_getElem hlt, hp]; rfl
    · show nextR 3 [58, 59] l f.r = _
      rw [hr, h1]
      unfold nextR
      rw [h3 hpw]
theorem Sim.take {l : List UInt8} {ps : List Part} {f : Fm} {s : St} (h : Sim l ps f s) (k : Nat) (ws : List (List UInt8)) (nd : Part → Bool)
    (hc : ∀ (p : Part) (x : List UInt8), (∃ i c r, p = nextP i (c :: r)) → (p.wrong < 0 → x = p.text) → (p.kind = 0 → p.wrong = p.at_) → (takesB k ws ⟨p.at_, p.kind, x, p.wrong, false⟩ = true ↔ p.kind ≠ 0 ∧ nd p = true)) :
    Sim l ps (tk l k ws f) (takeP ps l.length nd s).2 ∧ ((takeP ps l.length nd s).2.wrong < 0 → s.wrong < 0 ∧ f.r.text = (takeP ps l.length nd s).1 ∧ (takeP ps l.length nd s).2.i = s.i + 1 ∧ s.i < ps.length ∧ nd (lookP ps l.length s.i) = true ∧ (lookP ps l.length s.i).text = f.r.text ∧ (lookP ps l.length s.i).at_ = f.r.at_) := by
  have hf := h.wrong
  by_cases hw : 0 ≤ s.wrong
  · have e1 : tk l k ws f = f := by unfold tk takesR; rw [if_pos (by omega)]
    have e2 : takeP ps l.length nd s = ([], s) := by unfold takeP; rw [if_pos hw]
    rw [e1, e2]
    exact ⟨h, fun hb => by simp only [] at hb; omega⟩
  · have hm : s.wrong = -1 := by have := h.lo; omega
    rcases h.look (by omega) with ⟨h1, h2, h3⟩ | ⟨h1, p, x, h2, h3, h4, h5, h6, h7, h8⟩
    · have e1 : tk l k ws f = ⟨f.r, l.length⟩ := by unfold tk takesR; rw [if_neg (by omega), h3, if_pos (by unfold takesB; simp)]
      have e2 : takeP ps l.length nd s = ([], ⟨s.i, l.length⟩) := by unfold takeP; rw [if_neg hw, h2, if_pos (Or.inl rfl)]
      rw [e1, e2]
      refine ⟨⟨rfl, ?_, fun hb => ?_⟩, fun hb => ?_⟩
      · show -1 ≤ (l.length : Int); omega
      · exfalso; have hb : (l.length : Int) < 0 := hb; omega
      · exfalso; have hb : (l.length : Int) < 0 := hb; omega
    · have hb := hc p x h8 h5 h6
      by_cases hy : p.kind ≠ 0 ∧ nd p = true
      · have hn : ¬ (p.kind = 0 ∨ nd p = false) := by rintro (h0 | h0); exact hy.1 h0; rw [hy.2] at h0; cases h0
        have ht := hb.2 hy
        by_cases hpw : 0 ≤ p.wrong
        · have e1 : tk l k ws f = ⟨f.r, p.wrong⟩ := by unfold tk takesR; rw [if_neg (by omega), h3, if_neg (by rw [ht]; simp), if_pos hpw]
          have e2 : takeP ps l.length nd s = ([], ⟨s.i, p.wrong⟩) := by unfold takeP; rw [if_neg hw, h2, if_neg hn, if_pos hpw]
          rw [e1, e2]
          refine ⟨⟨rfl, ?_, fun hb => ?_⟩, fun hb => ?_⟩
          · show -1 ≤ p.wrong; omega
          · exfalso; have hb : p.wrong < 0 := hb; omega
          · exfalso; have hb : p.wrong < 0 := hb; omega
        · have e1 : tk l k ws f = ⟨nextR 3 [58, 59] l f.r, f.wrong⟩ := by unfold tk takesR; rw [if_neg (by omega), h3, if_neg (by rw [ht]; simp), if_neg hpw]
          have e2 : takeP ps l.length nd s = (p.text, ⟨s.i + 1, s.wrong⟩) := by unfold takeP; rw [if_neg hw, h2, if_neg hn, if_neg hpw]
          rw [e1, e2]
          have h10 := h5 (by omega)
          refine ⟨h7 (by omega), fun _ => ⟨by omega, by rw [h3]; exact h10, rfl, h1, by rw [h2]; exact hy.2, by rw [h2, h3]; exact h10.symm, by rw [h2, h3]⟩⟩
      · have hn : p.kind = 0 ∨ nd p = false := by
          by_cases h0 : p.kind = 0
          · exact .inl h0
          · exact .inr (by rw [Bool.eq_false_iff]; exact fun h9 => hy ⟨h0, h9⟩)
        have ht : takesB k ws ⟨p.at_, p.kind, x, p.wrong, false⟩ = false := by rw [Bool.eq_false_iff]; exact fun h0 => hy (hb.1 h0)
        have e1 : tk l k ws f = ⟨f.r, p.at_⟩ := by unfold tk takesR; rw [if_neg (by omega), h3, if_pos ht]
        have e2 : takeP ps l.length nd s = ([], ⟨s.i, p.at_⟩) := by unfold takeP; rw [if_neg hw, h2, if_pos hn]
        rw [e1, e2]
        refine ⟨⟨rfl, ?_, fun hb => ?_⟩, fun hb => ?_⟩
        · show -1 ≤ (p.at_ : Int); omega
        · exfalso; have hb : (p.at_ : Int) < 0 := hb; omega
        · exfalso; have hb : (p.at_ : Int) < 0 := hb; omega
section
variable {l : List UInt8} {ps : List Part} {f : Fm} {s : St}
structure Step (l : List UInt8) (ps : List Part) (s : St) (f' : Fm) (s' : St) (same : Prop) : Prop where
  sim : Sim l ps f' s'
  ok : s'.wrong < 0 → s.wrong < 0 ∧ s.i ≤ s'.i ∧ same
theorem Step.trans {f1 f2 : Fm} {s1 s2 : St} {P Q : Prop} (h : Step l ps s f1 s1 P) (k : Step l ps s1 f2 s2 Q) : Step l ps s f2 s2 (P ∧ Q) :=
  ⟨k.sim, fun hw => ⟨(h.ok (k.ok hw).1).1, Nat.le_trans (h.ok (k.ok hw).1).2.1 (k.ok hw).2.1, (h.ok (k.ok hw).1).2.2, (k.ok hw).2.2⟩⟩
theorem Step.imp {f1 : Fm} {s1 : St} {P Q : Prop} (h : Step l ps s f1 s1 P) (k : P → Q) : Step l ps s f1 s1 Q := ⟨h.sim, fun hw => ⟨(h.ok hw).1, (h.ok hw).2.1, k (h.ok hw).2.2⟩⟩
theorem Step.none (h : Sim l ps f s) : Step l ps s f s True := ⟨h, fun hw => ⟨hw, Nat.le_refl _, trivial⟩⟩
theorem partsN_len : ∀ (f i : Nat) (l : List UInt8), (partsN f i l).length ≤ l.length
  | 0, _, _ => by simp [partsN]
  | f + 1, i, l => by
    unfold partsN
    have hd : (l.drop (lay false l)).length ≤ l.length := by simp
    split
    · simp
    · rename_i c r hcr
      rw [hcr] at hd
      have hp := nextP_pos (i + lay false l) c r
      simp only [] at hp ⊢
      split
      · simp only [List.length_cons, List.length_nil] at *; omega
      · have ih := partsN_len f ((nextP (i + lay false l) (c :: r)).at_ + (nextP (i + lay false l) (c :: r)).text.length) ((c :: r).drop (nextP (i + lay false l) (c :: r)).text.length)
        rw [List.length_drop] at ih
        simp only [List.length_cons] at *
        omega
end
end Go.Proofs.YtonnegkpjmhomaaGreatDoor
end
