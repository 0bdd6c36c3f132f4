import Derived.Laws.Runes
import Derived.Test.YtonnegkpjmhomaaGreatDoorDLaid10
import Derived.Test.YtonnegkpjmhomaaGreatDoorDLaid11
import Derived.Test.YtonnegkpjmhomaaGreatDoorDLaid29
import Derived.Test.YtonnegkpjmhomaaGreatDoorDLaid30
set_option linter.all false
section
set_option linter.all false
namespace Go.Proofs.YtonnegkpjmhomaaGreatDoor
open Go.RowKit
theorem laidT_at {l : List (List UInt8 × List UInt8)} {tl : List UInt8} {i : Nat} {g t : List UInt8} (h : l[i]? = some (g, t)) :
    (atsT l)[i]? = some (((laidT (l.take i) g).length : Nat) : Int) ∧ laidT (l.take (i + 1)) [] = laidT (l.take i) g ++ t ∧ laidT l tl = laidT (l.take i) g ++ (t ++ laidT (l.drop (i + 1)) tl) := by
  have hi : i < l.length := by
    rcases Nat.lt_or_ge i l.length with h1 | h1
    · exact h1
    · rw [List.getElem?_eq_none h1] at h; cases h
  have hg : l[i] = (g, t) := by rw [List.getElem?_eq_getElem hi] at h; exact Option.some.inj h
  have e : l = l.take i ++ ((g, t) :: l.drop (i + 1)) := by rw [← hg, ← List.drop_eq_getElem_cons hi, List.take_append_drop]
  have hlen : (l.take i).length = i := by rw [List.length_take]; omega
  refine ⟨?_, ?_, ?_⟩
  · unfold atsT
    conv => lhs; rw [e]
    rw [partsT_app, List.map_append, List.getElem?_append_right (by rw [List.length_map, partsT_len, hlen]; exact Nat.le_refl _), List.length_map, partsT_len, hlen, Nat.sub_self]
    have := laidT_end (l.take i) [] g
    rw [List.nil_append] at this
    rw [this, List.length_append]
    simp [partsT]
  · rw [List.take_succ_eq_append_getElem hi, hg, laidT_app, ← laidT_end]
    show laidT (l.take i) (g ++ (t ++ [])) = _
    rw [List.append_nil]
  · conv => lhs; rw [e]
    rw [laidT_app, ← laidT_end]
    rfl
theorem ints_at {w : World} {n0 : Nat} {A : Option Addr} {c n : Nat} {zs : List Int} (hn : zs.length = n) (h : w.ownsRow n0 3 1 (.slice A n c) n (zs.map (Value.int .i64))) (j : Nat) (x : Int) (hj : zs[j]? = some x) : ∃ g, A = some ⟨g, 0, none⟩ ∧ w.cell? ⟨g, j, none⟩ = some (.int .i64 x) := by
  subst hn
  have hjl : j < zs.length := by
    rcases Nat.lt_or_ge j zs.length with h | h
    · exact h
    · rw [List.getElem?_eq_none h] at hj; cases hj
  rcases h.2 with ⟨_, h0⟩ | ⟨g, c', cur, hA, _, hg, hnc, hcm, hcs, htk⟩
  · have : zs = [] := by simpa using h0
    subst this; cases hj
  · injection hA with hA
    refine ⟨g, hA, ?_⟩
    have e2 : (cur.toList.take (zs.length * 1))[j]? = (zs.map (Value.int .i64))[j]? := by rw [htk]
    rw [List.getElem?_take, if_pos (by omega), List.getElem?_map, hj] at e2
    exact (cell_of_row w g _ cur _ (0, 0) hg).trans (by simpa using e2)
theorem atsT_len (l : List (List UInt8 × List UInt8)) : (atsT l).length = l.length := by unfold atsT; rw [List.length_map, partsT_len]
structure Lst (w wx : World) (C : Nat) (cs : Array Value) (lv av : Value) (ts : List (List UInt8)) (ps : List Int) : Prop where
  box : Blk wx C 25 cs
  toks : wx.ownsRow w.heap.size 9 1 lv ts.length (ts.map tokV)
  ats : wx.ownsRow w.heap.size 3 1 av ts.length (ps.map (Value.int .i64))
  kept : Below w.heap.size w wx
theorem Lst.below {w wx w' : World} {C : Nat} {cs : Array Value} {lv av : Value} {ts : List (List UInt8)} {ps : List Int} (h : Lst w wx C cs lv av ts ps) (hb : Below wx.heap.size wx w') : Lst w w' C cs lv av ts ps :=
  ⟨h.box.below hb h.box.lt, own_below h.toks hb (Nat.le_refl _), own_below h.ats hb (Nat.le_refl _), bt hb h.kept h.kept.size⟩
end Go.Proofs.YtonnegkpjmhomaaGreatDoor
end
section
set_option linter.all false
namespace Go.Proofs.YtonnegkpjmhomaaGreatDoor
open Go.RowKit
def idxF (k : Int) : Nat → List Int → Int
  | _, [] => -1
  | i, x :: l => if x = k then i else idxF k (i + 1) l
set_option maxHeartbeats 1000000 in
theorem index_calls (kz : Int) (zs : List Int) (v : Value) (B : Nat) (w : World) (hv : IntsAt w B v zs) :
    Calls Tryz.prog 21 #[v, .int .i64 kz] w fun e w' => e = .returned (.int .i64 (idxF kz 0 zs)) ∧ w = w' := by
  obtain ⟨A, c, rfl, hc1, hc2, hc3⟩ := hv.form
  unfold maxLen at hc2
  have Hf : Hid (idxF kz 0 zs = idxF kz 0 (zs.drop 0)) := rfl
  obtain ⟨r, Hr⟩ : ∃ r, Hid (idxF kz 0 zs = r) := ⟨_, rfl⟩
  rw [Hr.out] at Hf ⊢
  clear Hr
  go_enter Tryz.func21, Tryz.ntmps21
  go_wp2_with fail
  go_loopg [8, 5] zs.length (fun gk s8 _ wr => ∃ k : Nat, k + gk = zs.length ∧ s8 = .int .i64 k ∧ Hid (r = idxF kz k (zs.drop k)) ∧ w = wr)
  case atStart => exact ⟨0, by omega, rfl, Hf, rfl⟩
  case round =>
    clear Hf
    obtain ⟨k, hk, rfl, Hf, rfl⟩ := hrel
    cases gk with
    | zero =>
      obtain rfl : k = zs.length := by omega
      have Hr : Hid (r = -1) := by show _ = _; rw [Hf.out, List.drop_length]; rfl
      go_wp2_with fail
      go_ret
      exact ⟨by rw [Hr.out]; rfl, rfl⟩
    | succ gk =>
      have hlt : k < zs.length := by omega
      obtain ⟨g, o, rfl, _, hcell⟩ := hc3 (by intro h0; subst h0; simp at hlt)
      obtain ⟨x, Hc, hzk⟩ : ∃ x, Hid (zs.drop k = x :: zs.drop (k + 1)) ∧ w.cell? ⟨g, o + k, none⟩ = some (.int .i64 x) :=
        ⟨zs[k], by show zs.drop k = _; rw [List.drop_eq_getElem_cons hlt], by rw [hcell k hlt, List.getD_eq_getElem?_getD, List.getElem?_eq_getElem hlt]; rfl⟩
      have hlk : (k : Int) < (zs.length : Int) := by omega
      have hl0 : (0 : Int) ≤ (k : Int) := by omega
      clear hcell hc3
      by_cases hi : x = kz
      · have Hr : Hid (r = k) := by show _ = _; rw [Hf.out, Hc.out, idxF, if_pos hi]
        subst hi
        go_wp2_with fail
        go_ret
        exact ⟨by rw [Hr.out]; rfl, rfl⟩
      · have Hr : Hid (r = idxF kz (k + 1) (zs.drop (k + 1))) := by show _ = _; rw [Hf.out, Hc.out, idxF, if_neg hi]
        have hi2 : (kz == x) = false := by simpa using fun e : kz = x => hi e.symm
        have hi3 : ¬ kz = x := fun e => hi e.symm
        go_wp2_with fail
        go_roundg gk
        case measure => omega
        case rel => exact ⟨k + 1, by omega, by go_num, Hr, rfl⟩
theorem idxF_rep : ∀ (n : Nat) (x k : Int) (l : List Int) (i : Nat), x ≠ k → idxF k i (List.replicate n x ++ l) = idxF k (i + n) l
  | 0, _, _, _, _, _ => rfl
  | n + 1, x, k, l, i, h => by
    rw [List.replicate_succ, List.cons_append, idxF, if_neg h, idxF_rep n x k l (i + 1) h, show i + 1 + n = i + (n + 1) by omega]
theorem idxF_ofG : ∀ (gs : List Gt) (j k : Nat) (i : Nat), j ≤ k → idxF (k : Int) i (ofG (j : Int) gs) = if k < j + gs.length then ((i + ((gs.take (k - j)).flatMap toksG).length : Nat) : Int) else -1
  | [], j, k, i, h => by rw [ofG, idxF, if_neg (by simp; omega)]
  | g :: gs, j, k, i, h => by
    rw [ofG]
    rcases Nat.eq_or_lt_of_le h with rfl | h1
    · obtain ⟨n, hn⟩ : ∃ n, (toksG g).length = n + 1 := ⟨(toksG g).length - 1, by have := toksG_pos g; omega⟩
      rw [hn, List.replicate_succ, List.cons_append, idxF, if_pos rfl, if_pos (by simp), Nat.sub_self]
      simp
    · rw [idxF_rep _ _ _ _ _ (by omega), show (j : Int) + 1 = ((j + 1 : Nat) : Int) by omega, idxF_ofG gs (j + 1) k _ (by omega), List.length_cons]
      have e : k - j = (k - (j + 1)) + 1 := by omega
      by_cases hk : k < j + 1 + gs.length
      · rw [if_pos hk, if_pos (by omega), e, List.take_succ_cons, List.flatMap_cons, List.length_append]
        congr 1; omega
      · rw [if_neg hk, if_neg (by omega)]
theorem idxF_ofC (c : Ct) (b : Bool) (k : Nat) : idxF (k : Int) 0 (ofC c b) = if k < c.gates.length then (((toksH c b).length + ((c.gates.take k).flatMap toksG).length : Nat) : Int) else -1 := by
  unfold ofC
  rw [idxF_rep _ _ _ _ _ (by omega)]
  have := idxF_ofG c.gates 0 k (0 + (toksH c b).length) (Nat.zero_le _)
  rw [Nat.zero_add, Nat.zero_add, Nat.sub_zero] at this
  rw [Nat.zero_add]
  exact this
theorem wrongP_parts : ∀ (l : List (List UInt8 × List UInt8)) (i : Nat), wrongP (partsT i l) = -1
  | [], _ => rfl
  | (g, t) :: l, i => by
    rw [partsT, wrongP, if_neg (by show ¬ (0 : Int) ≤ -1; decide), wrongP_parts l]
theorem tokens_laid {c : Ct} {b : Bool} {l : List (List UInt8 × List UInt8)} {e : List UInt8} (h : LaidC c b l e) (hn : (laidT l e).length ≤ 65536) : sTokens (laidT l e) = (partsT 0 l, 0, 0) := by
  unfold sTokens
  rw [if_neg (by omega), partsP_laid h.ok h.full, wrongP_parts, if_neg (by decide)]
theorem tidy_laid {c : Ct} {b : Bool} {l : List (List UInt8 × List UInt8)} {e : List UInt8} (h : LaidC c b l e) (hn : (laidT l e).length ≤ 65536) : sTidy (laidT l e) = (printP c, 0, 0) := by
  unfold sTidy sPrint
  rw [h.read hn]
  simp [h.right]
theorem ofG_toks (c : Ct) (b : Bool) : (ofC c b).length = (toksAll c b).length := by
  unfold ofC toksAll
  rw [List.length_append, List.length_append, List.length_replicate, ofG_len]
theorem toksAll_split (c : Ct) (b : Bool) (i : Nat) : (toksAll c b).length = (toksH c b).length + ((c.gates.take i).flatMap toksG).length + ((c.gates.drop i).flatMap toksG).length := by
  unfold toksAll
  conv => lhs; rw [← List.take_append_drop i c.gates, List.flatMap_append]
  simp only [List.length_append, List.take_append_drop]
  omega
theorem atsT_look {l : List (List UInt8 × List UInt8)} {n j : Nat} (h : j < l.length) : (atsT l)[j]? = some (((lookP (partsT 0 l) n j).at_ : Nat) : Int) := by
  have hp : j < (partsT 0 l).length := by rw [partsT_len]; exact h
  unfold atsT
  rw [List.getElem?_map, List.getElem?_eq_getElem hp, look_some (List.getElem?_eq_getElem hp)]
  rfl
theorem where_laid {c : Ct} {b : Bool} {l : List (List UInt8 × List UInt8)} {e : List UInt8} (h : LaidC c b l e) (hn : (laidT l e).length ≤ 65536) {i : Nat} (hi : i < c.gates.length) :
    ∃ (f la : Nat) (x y : Int), idxF (i : Int) 0 (ofC c b) = f ∧ idxF ((i : Int) + 1) 0 (ofC c b) = (if i + 1 < c.gates.length then ((la : Int) + 1) else -1) ∧ (i + 1 = c.gates.length → la + 1 = (ofC c b).length) ∧ f < l.length ∧ la < l.length ∧
      (atsT l)[f]? = some x ∧ (atsT l)[la]? = some y ∧ sWhere (laidT l e) i = (x, y + 1, 0) := by
  have hll : l.length = (toksAll c b).length := by have := congrArg List.length h.toks; rw [List.length_map] at this; exact this
  have e1 := toksAll_split c b i
  have e2 := toksAll_split c b (i + 1)
  have ed : c.gates.drop i = c.gates[i] :: c.gates.drop (i + 1) := List.drop_eq_getElem_cons hi
  have ht : ((c.gates.take (i + 1)).flatMap toksG).length = ((c.gates.take i).flatMap toksG).length + (toksG c.gates[i]).length := by
    rw [List.take_succ_eq_append_getElem hi, List.flatMap_append, List.length_append]; simp
  have hpos := toksG_pos c.gates[i]
  rw [ed, List.flatMap_cons, List.length_append] at e1
  have hf : (toksH c b).length + ((c.gates.take i).flatMap toksG).length < l.length := by omega
  have hla : (toksH c b).length + ((c.gates.take i).flatMap toksG).length + (toksG c.gates[i]).length - 1 < l.length := by omega
  refine ⟨(toksH c b).length + ((c.gates.take i).flatMap toksG).length, (toksH c b).length + ((c.gates.take i).flatMap toksG).length + (toksG c.gates[i]).length - 1, _, _, ?_, ?_, ?_, hf, hla, atsT_look (n := (laidT l e).length) hf, atsT_look (n := (laidT l e).length) hla, ?_⟩
  · rw [idxF_ofC, if_pos hi]
  · have := idxF_ofC c b (i + 1)
    rw [show ((i : Int) + 1) = ((i + 1 : Nat) : Int) by omega, this, ht]
    split
    · omega
    · rfl
  · intro hl
    rw [ofG_toks, e1, hl, List.drop_length]
    simp
    omega
  · unfold sWhere
    rw [h.read hn]
    have hg := spansT_get (ps := partsT 0 l) (n := (laidT l e).length) c.gates (toksH c b).length i hi
    dsimp only
    rw [if_neg (by decide), if_neg (by rw [spansT_len]; omega), Int.toNat_natCast, List.getD_eq_getElem?_getD, hg]
    simp
theorem kind_tok {t : List UInt8} (h : ∃ k, Tok k t) : ∃ (b : UInt8) (r : List UInt8), t = b :: r ∧ ((48 ≤ (b.toNat : Int) ∧ (b.toNat : Int) ≤ 57 → kindT t = 2) ∧ (¬ (48 ≤ (b.toNat : Int) ∧ (b.toNat : Int) ≤ 57) → (b.toNat : Int) < 97 → (kindT t : Int) = b.toNat) ∧ (¬ (48 ≤ (b.toNat : Int) ∧ (b.toNat : Int) ≤ 57) → ¬ (b.toNat : Int) < 97 → kindT t = 1)) := by
  obtain ⟨k, h⟩ := h
  cases h with
  | word b t h h8 =>
    have hb : isL b = true := by simp only [List.all_cons, Bool.and_eq_true] at h; exact h.1
    have hk : kindT (b :: t) = 1 := by show (if isL b then 1 else _) = 1; rw [if_pos hb]
    unfold isL at hb
    simp only [Bool.and_eq_true, decide_eq_true_eq] at hb
    exact ⟨b, t, rfl, fun _ => by omega, fun _ _ => by omega, fun _ _ => hk⟩
  | num b t h h3 _ =>
    have hb : isD b = true := by simp only [List.all_cons, Bool.and_eq_true] at h; exact h.1
    have hk : kindT (b :: t) = 2 := by show (if isL b then 1 else if isD b then 2 else _) = 2; rw [if_neg (by rw [isD_noL b hb]; decide), if_pos hb]
    unfold isD at hb
    simp only [Bool.and_eq_true, decide_eq_true_eq] at hb
    exact ⟨b, t, rfl, fun _ => hk, fun h => absurd (by omega) h, fun h => absurd (by omega) h⟩
  | sign b h =>
    have hk : kindT [b] = b.toNat := by show (if isL b then 1 else if isD b then 2 else b.toNat) = _; rw [if_neg (by rw [(isS_noL b h).1]; decide), if_neg (by rw [(isS_noL b h).2]; decide)]
    refine ⟨b, [], rfl, fun h2 => ?_, fun _ _ => by rw [hk], fun h2 h3 => ?_⟩
    · unfold isS at h; simp only [Bool.or_eq_true, beq_iff_eq] at h; rcases h with rfl | rfl <;> exact absurd h2 (by decide)
    · unfold isS at h; simp only [Bool.or_eq_true, beq_iff_eq] at h; rcases h with rfl | rfl <;> exact absurd (by decide) h3
end Go.Proofs.YtonnegkpjmhomaaGreatDoor
end
section
set_option linter.all false
namespace Go.Proofs.YtonnegkpjmhomaaGreatDoor
open Go.RowKit
theorem toks_cellsN {w : World} {n0 n : Nat} {t : TypeId} {v : Value} {ps : List Part} (hn : ps.length = n) (h : w.ownsRow n0 t 3 v n (toksC ps)) (hne : 0 < n) :
    ∃ g c, v = .slice (some ⟨g, 0, none⟩) n c ∧ n ≤ c ∧ c ≤ maxLen ∧ g < w.heap.size ∧ ∀ i p, ps[i]? = some p → w.cell? ⟨g, i * 3, none⟩ = some (.int .i64 p.at_) ∧ w.cell? ⟨g, i * 3 + 1, none⟩ = some (.int .i64 p.kind) ∧ w.cell? ⟨g, i * 3 + 2, none⟩ = some (.string (bs p.text)) := by
  subst hn
  exact toks_cells h hne
theorem partsT_get : ∀ (l : List (List UInt8 × List UInt8)) (i j : Nat) (g t : List UInt8), l[i]? = some (g, t) → ∃ at_, (partsT j l)[i]? = some ⟨at_, kindT t, t, -1⟩
  | [], _, _, _, _, h => by cases h
  | (g', t') :: l, 0, j, g, t, h => by
    simp at h
    obtain ⟨rfl, rfl⟩ := h
    exact ⟨_, rfl⟩
  | (g', t') :: l, i + 1, j, g, t, h => by
    rw [partsT, List.getElem?_cons_succ]
    exact partsT_get l i _ g t (by simpa using h)
theorem atsT_bd {l : List (List UInt8 × List UInt8)} {e : List UInt8} {j : Nat} {y : Int} (h : (atsT l)[j]? = some y) : 0 ≤ y ∧ y ≤ (laidT l e).length := by
  have hj : j < l.length := by
    rcases Nat.lt_or_ge j l.length with h1 | h1
    · exact h1
    · rw [List.getElem?_eq_none (by rw [atsT_len]; exact h1)] at h; cases h
  obtain ⟨⟨g, t⟩, hg⟩ : ∃ x, l[j]? = some x := ⟨l[j], List.getElem?_eq_getElem hj⟩
  obtain ⟨h1, _, h3⟩ := laidT_at (tl := e) hg
  rw [h1] at h
  have h := Option.some.inj h
  rw [h3, List.length_append]
  omega
structure Lw (w wx : World) (C W : Nat) (Bt : Int) (gv : Value) (gw : List (Gt × Value)) (lv av ov : Value) (ts : List (List UInt8)) (ps os : List Int) : Prop where
  l : Lst w wx C #[.int .i64 W, .int .i64 Bt, gv] lv av ts ps
  o : wx.ownsRow w.heap.size 3 1 ov os.length (os.map (Value.int .i64))
  g : GsAt wx w.heap.size gv gw
theorem Lw.below {w wx w' : World} {C W : Nat} {Bt : Int} {gv : Value} {gw : List (Gt × Value)} {lv av ov : Value} {ts : List (List UInt8)} {ps os : List Int} (h : Lw w wx C W Bt gv gw lv av ov ts ps os) (hb : Below wx.heap.size wx w') : Lw w w' C W Bt gv gw lv av ov ts ps os :=
  ⟨h.l.below hb, own_below h.o hb (Nat.le_refl _), h.g.below hb⟩
theorem Lw.alloc {w wx : World} {C W : Nat} {Bt : Int} {gv : Value} {gw : List (Gt × Value)} {lv av ov : Value} {ts : List (List UInt8)} {ps os : List Int} (h : Lw w wx C W Bt gv gw lv av ov ts ps os) (o : Obj) : Lw w (wx.alloc o) C W Bt gv gw lv av ov ts ps os := h.below (below1 wx o)
theorem Lw.drewN {w wx : World} {C W : Nat} {Bt : Int} {gv : Value} {gw : List (Gt × Value)} {lv av ov : Value} {ts : List (List UInt8)} {ps os : List Int} (h : Lw w wx C W Bt gv gw lv av ov ts ps os) (n : Nat) : Lw w (wx.drewN n) C W Bt gv gw lv av ov ts ps os :=
  h.below ⟨rfl, rfl, rfl, Nat.le_refl _, fun _ _ => rfl⟩
set_option maxRecDepth 100000 in
set_option maxHeartbeats 16000000 in
theorem TextLaid_ok (a : Option Addr) (n c : Nat) (a2 : Option Addr) (n2 c2 : Nat) (bb : Bool) (w : World) (hB : BytesAt w a n) (ha : a = none → n = 0) (hc : n ≤ c) (hB2 : BytesAt w a2 n2) (ha2 : a2 = none → n2 = 0) (hc2 : n2 ≤ c2) (ht : TabsA w) :
    Calls Tryz.prog 5 #[.slice a n c, .slice a2 n2 c2, .bool bb] w fun e w' => e = .returned (.bool true) ∧ Below w.heap.size w w' := by
  have HD1 := Lib.hid (drawn_calls a n c w hB ha hc ht)
  have HOf := Lib.hid (fun (w' : World) (hb : Below w.heap.size w w') => store_calls a2 n2 c2 w' (hB2.below hb) ha2 hc2)
  have HT := Lib.hid ht
  clear hB hB2 ht ha ha2 hc hc2
  go_enter Tryz.func5, Tryz.ntmps5
  go_wp2_with fail
  refine HD1.out.mono ?_
  rintro e w1 ⟨W, Bt, gv, gw, b, rfl, hck, hgw, hgs, _, _, k1⟩
  obtain ⟨Ag, cg, rfl⟩ := own_form hgs.row
  clear HD1
  go_upto_region 2 with fail
  have hgs := hgs.below (below1 w1 (.cells #[.int .i64 W, .int .i64 Bt, .slice Ag gw.length cg] 25))
  have hC := Blk.new w1 25 #[.int .i64 W, .int .i64 Bt, .slice Ag gw.length cg]
  have k1 := k1.alloc k1.size (.cells #[.int .i64 W, .int .i64 Bt, .slice Ag gw.length cg] 25)
  have hk1w := k1.size
  generalize w1.alloc (.cells #[.int .i64 W, .int .i64 Bt, .slice Ag gw.length cg] 25) = wa at *
  generalize w1.heap.size = C at *
  have x0 := hC.cell 0
  have x1 := hC.cell 1
  have x2 := hC.cell 2
  simp at x0 x1 x2
  obtain ⟨cc, hcc⟩ : ∃ cc : Ct, Hid ((⟨W, Bt, gw.map (·.1)⟩ : Ct) = cc) := ⟨_, rfl⟩
  have hcr : Hid (chkC cc = 0) := by show _ = _; rw [← hcc.out]; exact hck
  have hcl : Hid (cc.gates.length ≤ 12) := by show _ ≤ _; rw [← hcc.out]; show (gw.map (·.1)).length ≤ 12; rw [List.length_map]; exact hgw
  have HPa : Hid (Calls Tryz.prog 10 #[.agg #[.int .i64 W, .int .i64 Bt, .slice Ag gw.length cg], .bool bb] wa fun e w' => ∃ lv ov, e = .returned (.tuple #[lv, ov]) ∧ Pst wa w' lv ov (toksAll cc bb) (ofC cc bb)) := by
    rw [← hcc.out]
    have h := lawParts_calls ⟨W, Bt, gw.map (·.1)⟩ bb (.slice Ag gw.length cg) wa hck (by rw [List.length_map]; exact hgw) hgs.gates
    exact h
  have HC := Lib.hid hC
  have HGs := Lib.hid hgs
  clear hgs hC hck
  go_wp2_with fail
  refine HPa.out.mono ?_
  rintro e w2 ⟨lv, ov, rfl, hp⟩
  have hlo := hp.l
  have hoo := hp.o
  have HGs2 := Lib.hid (HGs.out.below hp.kept)
  obtain ⟨Al, cl, rfl⟩ := own_form hlo
  obtain ⟨Ao, co, rfl⟩ := own_form hoo
  have HO := Lib.hid hoo
  have k2 := bt hp.kept k1 k1.size
  have hkk := hp.kept.size
  have HL := Lib.hid hlo
  have HC2 := Lib.hid (HC.out.below hp.kept HC.out.lt)
  have K2 := Lib.hid k2
  clear hp hlo hoo HGs k2 HPa x0 x1 x2
  go_wp2_with fail
  refine (HOf.out w2 K2.out).mono ?_
  rintro e w3 ⟨b3, rfl, hb3, hs3, k3⟩
  have hls : Hid ((toksAll cc bb).length ≤ 113) := by show _ ≤ _; exact toksAll_len bb hcr.out hcl.out
  have HLd := Lib.hid (lawLaid_calls b3 b3 0 Al cl (toksAll cc bb) w3 hs3 (by omega) wa.heap.size (own_below HL.out k3 (Nat.le_refl _)) (toksAll_tok bb hcr.out) (by have := hls.out; omega))
  have HT3 := Lib.hid (own_base (own_below HL.out k3 (Nat.le_refl _)) hk1w)
  have HC3 := Lib.hid (HC2.out.below k3 HC2.out.lt)
  have HO3 := Lib.hid (own_base (own_below HO.out k3 (Nat.le_refl _)) hk1w)
  have HGs3 := Lib.hid (HGs2.out.below k3)
  have k3 := bt k3 K2.out K2.out.size
  have hb3w : w.heap.size ≤ b3 := Nat.le_trans K2.out.size hb3
  clear HOf HL K2 hb3 HC HC2 hkk HO HGs2
  have HS3 := Lib.hid hs3
  clear hs3
  go_wp2_with fail
  refine HLd.out.mono ?_
  rintro e w4 ⟨l, tl, av, rfl, hlt, hlo, hfl, hln, hav, _, hg4⟩
  obtain ⟨Av, cv, rfl⟩ := own_form hav
  have L0 : Lst w w4 C #[.int .i64 W, .int .i64 Bt, .slice Ag gw.length cg] (.slice Al (toksAll cc bb).length cl) (.slice Av (toksAll cc bb).length cv) (toksAll cc bb) (atsT l) :=
    ⟨HS3.out.blkKeep hg4 HC3.out (by decide), HS3.out.ownKeep hg4 HT3.out (by decide), own_base hav k3.size, below_grown' k3 hg4 hb3w⟩
  have HLs := Lib.hid L0
  have HO4 := Lib.hid (HS3.out.ownKeep hg4 HO3.out (by decide))
  have HG4 := Lib.hid (HS3.out.gsKeep hg4 HGs3.out)
  obtain ⟨s, Hs, hsl⟩ : ∃ s, Hid (laidT l tl = s) ∧ s.length ≤ 2000 := ⟨laidT l tl, by show _ = _; rfl, by have := hls.out; omega⟩
  rw [Hs.out]
  have hsz : (bs s).size = s.length := bs_size s
  have Hcn : Hid (cc.gates.length = gw.length) := by show _ = _; rw [← hcc.out]; show (gw.map (·.1)).length = _; rw [List.length_map]
  obtain ⟨ts, Hts⟩ : ∃ ts, Hid (toksAll cc bb = ts) := ⟨_, rfl⟩
  have HLc : Hid (LaidC cc bb l tl) := ⟨hcr.out, hlo, hfl, hlt⟩
  rw [Hts.out] at HLs hlt hls ⊢
  have Hlt := Lib.hid hlt
  have htl3 : 3 ≤ ts.length := by rw [← Hts.out]; unfold toksAll; rw [List.length_append]; have := (toksH_len cc bb).2; omega
  have htl4 : ts.length ≤ 113 := hls.out
  clear HLd k3 hg4 hln hlt hlo hfl L0 hav HS3 HT3 HC3 HO3 HGs3
  have T0 : Lw w w4 C W Bt (.slice Ag gw.length cg) gw (.slice Al ts.length cl) (.slice Av ts.length cv) (.slice Ao (ofC cc bb).length co) ts (atsT l) (ofC cc bb) := ⟨HLs.out, HO4.out, HG4.out⟩
  have hol : Hid ((ofC cc bb).length = ts.length) := by show _ = _; rw [ofG_toks, Hts.out]
  obtain ⟨os, Hos⟩ : ∃ os, Hid (ofC cc bb = os) := ⟨_, rfl⟩
  rw [Hos.out] at T0 hol ⊢
  have T := Lib.hid T0
  clear T0 HLs HO4 HG4
  have hln : Hid ((laidT l tl).length ≤ 65536) := by show _ ≤ _; rw [Hs.out]; omega
  have hrd := HLc.out.read hln.out
  have htd := tidy_laid HLc.out hln.out
  have htk := tokens_laid HLc.out hln.out
  rw [Hs.out] at hrd htd htk
  have hpc : sPrint ⟨W, Bt, gw.map (·.1)⟩ = (printP cc, 0) := by unfold sPrint; rw [hcc.out, if_pos hcr.out]
  have HP1 := Lib.hid (fun (W' : World) (t : Lw w W' C W Bt (.slice Ag gw.length cg) gw (.slice Al ts.length cl) (.slice Av ts.length cv) (.slice Ao os.length co) ts (atsT l) os) => Print_calls W Bt _ _ _ W' (Nat.le_refl _) t.g.gates (by have h := right_short hcr.out; rw [← hcc.out] at h; exact h) ((HT.out.below t.l.kept).tabs))
  rw [hpc] at HP1
  have hpa := fun (W' : World) (h : Tabs W') => Parse_calls s (by omega) W' h
  rw [hrd] at hpa
  have hti := fun (W' : World) (h : Tabs W') => Tidy_calls s (by omega) W' h
  rw [htd] at hti
  have HPA := Lib.hid hpa
  have HTI := Lib.hid hti
  have HTK := Lib.hid (fun W' => Tokens_calls s (by omega) W')
  have Htk := Lib.hid htk
  have Htl : Hid (l.length = ts.length) := by show _ = _; rw [← Hlt.out, List.length_map]
  clear hpc hpa hti hrd htd htk
  go_upto_region 4 with fail
  have x0 := T.out.l.box.cell 0
  have x1 := T.out.l.box.cell 1
  have x2 := T.out.l.box.cell 2
  simp at x0 x1 x2
  go_wp2_with fail
  refine (HP1.out _ T.out).mono ?_
  rintro e w5 ⟨rfl, k5⟩
  have T := Lib.hid (T.out.below k5)
  clear k5 x0 x1 x2 HP1
  dsimp only
  go_wp2_with fail
  refine (HPA.out _ (HT.out.below T.out.l.kept).tabs).mono ?_
  rintro e w6 ⟨gv4, gw4, rfl, hgm, hg4, k6⟩
  obtain ⟨A4, c4, rfl⟩ := own_form hg4.row
  have T := Lib.hid (T.out.below k6)
  clear k6 HPA
  dsimp only at hgm ⊢
  go_upto_region 6 with fail
  have hX := Blk.new w6 25 #[.int .i64 cc.wires, .int .i64 cc.bits, .slice A4 gw4.length c4]
  have hg4 := hg4.below (below1 w6 (.cells #[.int .i64 cc.wires, .int .i64 cc.bits, .slice A4 gw4.length c4] 25))
  have T := Lib.hid (T.out.alloc (.cells #[.int .i64 cc.wires, .int .i64 cc.bits, .slice A4 gw4.length c4] 25))
  generalize w6.alloc (.cells #[.int .i64 cc.wires, .int .i64 cc.bits, .slice A4 gw4.length c4] 25) = w7 at *
  generalize w6.heap.size = X at *
  go_wp2_with fail
  refine (HTI.out _ (HT.out.below T.out.l.kept).tabs).mono ?_
  rintro e w8 ⟨rfl, k8⟩
  have hX := hX.below k8 hX.lt
  have hg4 := hg4.below k8
  have T := Lib.hid (T.out.below k8)
  clear k8 HTI
  go_wp2_with fail
  refine (HTK.out _).mono ?_
  rintro e w9 ⟨tv, ps, at_, er, rfl, hps, htv, k9⟩
  obtain ⟨rfl, rfl, rfl⟩ : partsT 0 l = ps ∧ 0 = at_ ∧ 0 = er := by
    have := Htk.out.symm.trans hps
    injection this with h1 h2
    injection h2 with h2 h3
    exact ⟨h1, h2, h3⟩
  have hX := hX.below k9 hX.lt
  have hg4 := hg4.below k9
  have htv := own_base htv T.out.l.kept.size
  have T := Lib.hid (T.out.below k9)
  rw [partsT_len, Htl.out] at htv
  obtain ⟨At, ct, rfl⟩ := own_form htv
  have HTV := Lib.hid htv
  clear k9 hps HTK htv
  have hgg := hg4.gates
  rw [hgm] at hgg
  have hXc := fun W' (k : Below w9.heap.size w9 W') => Same_gen cc ⟨W, Bt, gw.map (·.1)⟩ _ _ _ W' k.size (hgg.below k) ((T.out.g.gates).below k) (by rw [hcc.out]; exact kindLen hcr.out hcr.out) (right_short hcr.out)
  rw [decide_eq_true hcc.out.symm] at hXc
  dsimp only at hXc
  have HXC := Lib.hid hXc
  clear hXc hgg
  have x0 := hX.cell 0
  have x1 := hX.cell 1
  have x2 := hX.cell 2
  have y0 := T.out.l.box.cell 0
  have y1 := T.out.l.box.cell 1
  have y2 := T.out.l.box.cell 2
  simp at x0 x1 x2 y0 y1 y2
  clear hg4 hX hgm
  go_wp2_with fail
  refine (HXC.out _ (Below.refl _ _)).mono ?_
  rintro e w10 ⟨rfl, k10⟩
  have HTV := Lib.hid (own_below HTV.out k10 (Nat.le_refl _))
  have T := Lib.hid (T.out.below k10)
  clear k10 x0 x1 x2 y0 y1 y2 HXC
  go_upto_region 11 with fail
  go_loopg [116] ts.length (fun gk s116 wr => ∃ i : Nat, i + gk = ts.length ∧ s116 = .int .i64 i ∧ Lw w wr C W Bt (.slice Ag gw.length cg) gw (.slice Al ts.length cl) (.slice Av ts.length cv) (.slice Ao os.length co) ts (atsT l) os ∧ wr.ownsRow w.heap.size 53 3 (.slice At ts.length ct) ts.length (toksC (partsT 0 l)))
  case atStart => exact ⟨0, by omega, rfl, T.out, HTV.out⟩
  case round =>
    clear T HTV
    obtain ⟨i, hi, rfl, hT, hV⟩ := hrel
    cases gk with
    | zero =>
      obtain rfl : i = ts.length := by omega
      clear hV
      have T := Lib.hid hT
      have y2 := hT.l.box.cell 2
      simp at y2
      clear hT
      go_upto_region 22 with fail
      clear y2
      go_loopg [175] gw.length (fun gk s175 wr => ∃ i : Nat, i + gk = gw.length ∧ s175 = .int .i64 i ∧ Lw w wr C W Bt (.slice Ag gw.length cg) gw (.slice Al ts.length cl) (.slice Av ts.length cv) (.slice Ao os.length co) ts (atsT l) os)
      case atStart => exact ⟨0, by omega, rfl, T.out⟩
      case round =>
        clear T
        obtain ⟨i, hi, rfl, hT⟩ := hrel
        have T := Lib.hid hT
        cases gk with
        | zero =>
          obtain rfl : i = gw.length := by omega
          clear hT
          go_wp2_with fail
          refine (awake_calls _ (HT.out.below T.out.l.kept).tabs).mono ?_
          rintro e w11 ⟨rfl, k11⟩
          have k11 := bt k11 T.out.l.kept T.out.l.kept.size
          go_wp2_with fail
          go_ret
          exact ⟨rfl, k11⟩
        | succ g1 =>
          have hlt : i < gw.length := by omega
          have hlti : (i : Int) < (gw.length : Int) := by omega
          have hi0 : (0 : Int) ≤ (i : Int) := by omega
          have hgc : i < cc.gates.length := by have := Hcn.out; omega
          obtain ⟨f, la, x, y, hf, hla, hlast, hfl, hlal, hx, hy, hwh⟩ := where_laid HLc.out hln.out hgc
          rw [Hs.out] at hwh
          rw [Hos.out] at hf hla hlast
          have hal : (atsT l).length = ts.length := by rw [atsT_len, Htl.out]
          obtain ⟨gb, hgb, xf⟩ := ints_at hal hT.l.ats f _ hx
          cases hgb
          obtain ⟨gb2, hgb2, xl⟩ := ints_at hal hT.l.ats la _ hy
          cases hgb2
          have hyb := atsT_bd (e := tl) hy
          rw [Hs.out] at hyb
          have hy1 : y + 1 ≤ 3000 := by omega
          have hy0 := hyb.1
          have hw := Where_calls s (by omega) (i : Int)
          rw [hwh] at hw
          have HW := Lib.hid (fun W' (h : Tabs W') => hw W' h)
          have HI1 := Lib.hid (fun W' (k : Below wr.heap.size wr W') => index_calls (i : Int) os _ W'.heap.size W' (ints_own (hT.below k).o))
          have HI2 := Lib.hid (fun W' (k : Below wr.heap.size wr W') => index_calls ((i : Int) + 1) os _ W'.heap.size W' (ints_own (hT.below k).o))
          rw [hf] at HI1
          rw [hla] at HI2
          have hfi : (f : Int) < (ts.length : Int) := by have := Htl.out; omega
          have hlai : (la : Int) < (ts.length : Int) := by have := Htl.out; omega
          have hf0 : (0 : Int) ≤ (f : Int) := by omega
          have hl0 : (0 : Int) ≤ (la : Int) := by omega
          have hi1 : (i : Int) + 1 ≤ 1000 := by omega
          have hla9 : (la : Int) ≤ 1000 := by omega
          clear hf hla hfl hlal hx hy hwh hal hw hyb
          go_wp2_with fail
          refine (HW.out _ (HT.out.below T.out.l.kept).tabs).mono ?_
          rintro e w11 ⟨rfl, k11⟩
          dsimp only
          have xf := (k11.cell (p := ⟨gb, f, none⟩) (World.block_lt_of_cell? wr _ xf)).trans xf
          have xl := (k11.cell (p := ⟨gb, la, none⟩) (World.block_lt_of_cell? wr _ xl)).trans xl
          have HT2 := Lib.hid (T.out.below k11)
          have K11 := Lib.hid k11
          clear hT T k11
          go_wp2_with fail
          refine (HI1.out _ K11.out).mono ?_
          rintro e w12 ⟨rfl, rfl⟩
          go_wp2_with fail
          refine (HI2.out _ K11.out).mono ?_
          rintro e w13 ⟨rfl, rfl⟩
          by_cases hlt2 : i + 1 < cc.gates.length
          · rw [if_pos hlt2]
            clear hlast HI1 HI2
            have hneg : decide ((la : Int) < 0) = false := decide_eq_false (by omega)
            go_wp2_with fail
            go_roundg g1
            case measure => omega
            case rel => exact ⟨i + 1, by omega, by go_num, HT2.out⟩
          · have hol1 := hlast (by omega)
            have hol2 : (os.length : Int) - 1 = (la : Int) := by omega
            rw [if_neg hlt2]
            clear hlast HI1 HI2 hol1
            go_wp2_with fail
            go_roundg g1
            case measure => omega
            case rel => exact ⟨i + 1, by omega, by go_num, HT2.out⟩
    | succ g1 =>
      have hlt : i < ts.length := by omega
      have hlti : (i : Int) < (ts.length : Int) := by omega
      have hi0 : (0 : Int) ≤ (i : Int) := by omega
      have hll : i < l.length := by have := Htl.out; omega
      obtain ⟨⟨g, t⟩, hgt⟩ : ∃ x, l[i]? = some x := ⟨l[i], List.getElem?_eq_getElem hll⟩
      have htt : ts[i]? = some t := by rw [← Hlt.out, List.getElem?_map, hgt]; rfl
      obtain ⟨at_, hpt⟩ := partsT_get l i 0 g t hgt
      have hat : (atsT l)[i]? = some (at_ : Int) := by unfold atsT; rw [List.getElem?_map, hpt]; rfl
      have hal : (atsT l).length = ts.length := by rw [atsT_len, Htl.out]
      obtain ⟨gv, cv', e1, _, _, _, hcell⟩ := toks_cellsN (by rw [partsT_len, Htl.out]) hV (by omega)
      injection e1 with e1 _ e3
      subst e1 e3
      obtain ⟨z0, z1, z2⟩ := hcell i _ hpt
      obtain ⟨ga, hga, xt⟩ := str_at (ws := ts) hT.l.toks i t htt
      cases hga
      obtain ⟨gb, hgb, xa⟩ := ints_at hal hT.l.ats i _ hat
      cases hgb
      obtain ⟨b0, r0, htb, hk1, hk2, hk3⟩ := kind_tok (by have := LaidOk.tok HLc.out.ok t (by rw [Hlt.out]; exact List.mem_of_getElem? htt); exact this)
      have hts0 : 0 < (bs t).size := by rw [bs_size, htb]; simp
      have htg : ∀ h, (bs t)[0]'h = b0 := fun h => by rw [bs_get]; simp [htb]
      have hb1 : (b0.toNat : Int) < 256 := by have := b0.toNat_lt; omega
      have hb2 : (0 : Int) ≤ (b0.toNat : Int) := by omega
      dsimp only at z0 z1 z2
      obtain ⟨kz, hkz⟩ : ∃ kz : Int, (kindT t : Int) = kz := ⟨_, rfl⟩
      have Hk : Hid ((48 ≤ (b0.toNat : Int) ∧ (b0.toNat : Int) ≤ 57 → kz = 2) ∧ (¬ (48 ≤ (b0.toNat : Int) ∧ (b0.toNat : Int) ≤ 57) → (b0.toNat : Int) < 97 → kz = b0.toNat) ∧ (¬ (48 ≤ (b0.toNat : Int) ∧ (b0.toNat : Int) ≤ 57) → ¬ (b0.toNat : Int) < 97 → kz = 1)) :=
        ⟨fun h => by rw [← hkz, hk1 h]; rfl, fun h h' => by rw [← hkz]; exact hk2 h h', fun h h' => by rw [← hkz, hk3 h h']; rfl⟩
      rw [hkz] at z1
      clear hkz hk1 hk2 hk3 htb
      have hT2 := hT.alloc (.cells #[.int .i64 (at_ : Int), .int .i64 kz, .string (bs t)] 53)
      have HV := Lib.hid (own_below hV (below1 wr (.cells #[.int .i64 (at_ : Int), .int .i64 kz, .string (bs t)] 53)) (Nat.le_refl _))
      have HL2 := Lib.hid hT2
      have hbx := Blk.new wr 53 #[.int .i64 (at_ : Int), .int .i64 kz, .string (bs t)]
      have xt2 := Lib.cell?_alloc_some (.cells #[.int .i64 (at_ : Int), .int .i64 kz, .string (bs t)] 53) xt
      have xa2 := Lib.cell?_alloc_some (.cells #[.int .i64 (at_ : Int), .int .i64 kz, .string (bs t)] 53) xa
      clear hcell hpt hat hal hV hT hT2 hgt
      go_upto_region 14 with fail
      generalize wr.alloc (.cells #[.int .i64 (at_ : Int), .int .i64 kz, .string (bs t)] 53) = WB at *
      have y0 := hbx.cell 0
      have y1 := hbx.cell 1
      have y2 := hbx.cell 2
      simp at y0 y1 y2
      by_cases h48 : 48 ≤ (b0.toNat : Int)
      · by_cases h57 : (b0.toNat : Int) ≤ 57
        · have hk := Hk.out.1 ⟨h48, h57⟩
          subst hk
          clear Hk
          go_upto_region 18 with fail
          go_quiet (fail)
          have T2 := Lib.hid ((HL2.out : Lw w WB C W Bt (.slice Ag gw.length cg) gw (.slice (some ⟨ga, 0, none⟩) ts.length cl) (.slice (some ⟨gb, 0, none⟩) ts.length cv) (.slice Ao os.length co) ts (atsT l) os).drewN nq)
          have HV2 : (WB.drewN nq).ownsRow w.heap.size 53 3 (.slice (some ⟨gv, 0, none⟩) ts.length ct) ts.length (toksC (partsT 0 l)) := HV.out
          go_wp2_with fail
          go_roundg g1
          case measure => omega
          case rel => exact ⟨i + 1, by omega, by go_num, T2.out, HV2⟩
        · have hn : ¬ (48 ≤ (b0.toNat : Int) ∧ (b0.toNat : Int) ≤ 57) := fun h => h57 h.2
          by_cases h97 : (b0.toNat : Int) < 97
          · have hk := Hk.out.2.1 hn h97
            subst hk
            clear Hk hn
            go_upto_region 18 with fail
            go_quiet (fail)
            have T2 := Lib.hid ((HL2.out : Lw w WB C W Bt (.slice Ag gw.length cg) gw (.slice (some ⟨ga, 0, none⟩) ts.length cl) (.slice (some ⟨gb, 0, none⟩) ts.length cv) (.slice Ao os.length co) ts (atsT l) os).drewN nq)
            have HV2 : (WB.drewN nq).ownsRow w.heap.size 53 3 (.slice (some ⟨gv, 0, none⟩) ts.length ct) ts.length (toksC (partsT 0 l)) := HV.out
            go_wp2_with fail
            go_roundg g1
            case measure => omega
            case rel => exact ⟨i + 1, by omega, by go_num, T2.out, HV2⟩
          · have hk := Hk.out.2.2 hn h97
            subst hk
            clear Hk hn
            go_upto_region 18 with fail
            go_quiet (fail)
            have T2 := Lib.hid ((HL2.out : Lw w WB C W Bt (.slice Ag gw.length cg) gw (.slice (some ⟨ga, 0, none⟩) ts.length cl) (.slice (some ⟨gb, 0, none⟩) ts.length cv) (.slice Ao os.length co) ts (atsT l) os).drewN nq)
            have HV2 : (WB.drewN nq).ownsRow w.heap.size 53 3 (.slice (some ⟨gv, 0, none⟩) ts.length ct) ts.length (toksC (partsT 0 l)) := HV.out
            go_wp2_with fail
            go_roundg g1
            case measure => omega
            case rel => exact ⟨i + 1, by omega, by go_num, T2.out, HV2⟩
      · have h48d : decide (48 ≤ (b0.toNat : Int)) = false := decide_eq_false h48
        have hk := Hk.out.2.1 (fun h => h48 h.1) (by omega)
        subst hk
        clear Hk
        have h97 : (b0.toNat : Int) < 97 := by omega
        go_upto_region 18 with fail
        go_quiet (fail)
        have T2 := Lib.hid ((HL2.out : Lw w WB C W Bt (.slice Ag gw.length cg) gw (.slice (some ⟨ga, 0, none⟩) ts.length cl) (.slice (some ⟨gb, 0, none⟩) ts.length cv) (.slice Ao os.length co) ts (atsT l) os).drewN nq)
        have HV2 : (WB.drewN nq).ownsRow w.heap.size 53 3 (.slice (some ⟨gv, 0, none⟩) ts.length ct) ts.length (toksC (partsT 0 l)) := HV.out
        go_wp2_with fail
        go_roundg g1
        case measure => omega
        case rel => exact ⟨i + 1, by omega, by go_num, T2.out, HV2⟩
end Go.Proofs.YtonnegkpjmhomaaGreatDoor
end
