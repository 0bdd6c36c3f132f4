import Derived.Deep.RegionLaw
import Derived.Deep.RegionHeld3
import Derived.Deep.CutBlock
import Derived.Deep.CutRange
import Derived.Maps.RangeWalk
import Derived.Test.YtonnegkpjmhomaaGreatDoorDLaid7
import Derived.Test.YtonnegkpjmhomaaGreatDoorDLaid8
set_option linter.all false
section
namespace Go.Proofs.YtonnegkpjmhomaaGreatDoor
open Go.RowKit
theorem takeP_i {ps : List Part} {n : Nat} {nd : Part → Bool} {s : St} (h : s.i ≤ ps.length) : (takeP ps n nd s).2.i ≤ ps.length := by
  unfold takeP
  split
  · exact h
  · split
    · exact h
    · rename_i hk
      split
      · exact h
      · by_cases hi : s.i < ps.length
        · exact hi
        · exfalso
          apply hk
          left
          unfold lookP; rw [List.getD_eq_getElem?_getD, List.getElem?_eq_none (by omega)]; rfl
theorem take_is (t : List UInt8) (Bc R : Nat) (l : List UInt8) (ps : List Part) (s : St) (nv sv lv : Value) (hps : ps.length ≤ 1000000) (w : World) (h : RdAt w R l ps s nv sv lv) (hc : Blk w Bc 9 #[.string (bs t)]) (hi : s.i ≤ ps.length) :
    Calls Tryz.prog 85 #[.pointer (some ⟨R, 0, none⟩), .func (.func 125) #[] #[.pointer (some ⟨Bc, 0, none⟩)]] w fun e w' =>
      e = .returned (.string (bs (takeP ps l.length (isT t) s).1)) ∧ RdAt w' R l ps (takeP ps l.length (isT t) s).2 (.func (.func 125) #[] #[.pointer (some ⟨Bc, 0, none⟩)]) sv lv ∧ w.grownBy w' (some R) :=
  take_calls 125 #[.pointer (some ⟨Bc, 0, none⟩)] (enters_of Tryz.func125 (by kernel_rfl) rfl) (isT t) R l ps s nv sv lv hps w h
    (fun W hg => is1_calls t Bc _ W (hc.grown hg (fun e => by injection e with e; exact hc.ne_ h.blk (by decide) e))) hi
theorem lookP_len {ps : List Part} {n i : Nat} (h : ∀ p ∈ ps, p.text.length ≤ 1000000) : (lookP ps n i).text.length ≤ 1000000 := by
  unfold lookP
  rw [List.getD_eq_getElem?_getD]
  cases hp : ps[i]? with
  | none => simp
  | some p => exact h p (List.mem_of_getElem? hp)
theorem take_kind (R : Nat) (l : List UInt8) (ps : List Part) (s : St) (nv sv lv : Value) (hps : ps.length ≤ 1000000) (hlen : ∀ p ∈ ps, p.text.length ≤ 1000000) (w : World) (h : RdAt w R l ps s nv sv lv) (hi : s.i ≤ ps.length) :
    Calls Tryz.prog 85 #[.pointer (some ⟨R, 0, none⟩), .func (.func 129) #[] #[]] w fun e w' =>
      e = .returned (.string (bs (takeP ps l.length isK s).1)) ∧ RdAt w' R l ps (takeP ps l.length isK s).2 (.func (.func 129) #[] #[]) sv lv ∧ w.grownBy w' (some R) :=
  take_calls 129 #[] (enters_of Tryz.func129 (by kernel_rfl) rfl) isK R l ps s nv sv lv hps w h (fun W _ => gate1_calls _ (lookP_len hlen) W) hi
theorem takeP_len {ps : List Part} {n : Nat} {nd : Part → Bool} {s : St} (h : ∀ p ∈ ps, p.text.length ≤ 1000000) : (takeP ps n nd s).1.length ≤ 1000000 := by
  unfold takeP
  split
  · simp
  · split
    · simp
    · split
      · simp
      · exact lookP_len h
theorem numP_le {ps : List Part} {n : Nat} {s : St} (ho : OkP ps) : 0 ≤ (numP ps n s).1 ∧ (numP ps n s).1 ≤ 999 := by
  unfold numP
  refine ⟨by omega, ?_⟩
  rcases takeP_num (n := n) (s := s) ho with h | ⟨_, h2, h3⟩
  · rw [h]; show ((numV [] : Nat) : Int) ≤ 999; decide
  · have := numV_lt _ h2 h3
    show ((numV (takeP ps n isN s).1 : Nat) : Int) ≤ 999
    omega
theorem kindW_le (t : List UInt8) : 0 ≤ kindW t ∧ kindW t ≤ 14 := by
  have h2 : kindW t = ((wordTab.find? (fun p => p.1 == t)).map (·.2)).getD 0 := rfl
  cases hf : wordTab.find? (fun p => p.1 == t) with
  | none => rw [h2, hf]; decide
  | some p =>
    have h3 := List.mem_of_find?_eq_some hf
    have h4 : ∀ q ∈ wordTab, 0 ≤ q.2 ∧ q.2 ≤ 14 := by decide
    rw [h2, hf]
    exact h4 p h3
structure GSt (w wx : World) (R B0 B1 : Nat) (l : List UInt8) (ps : List Part) (s : St) (sv lv k wv b f : Value) : Prop where
  rd : ∃ nv, RdAt wx R l ps s nv sv lv
  res : Blk wx B0 61 #[.int .i64 0, .slice none 0 0, .int .i64 0, .int .i64 0]
  g : Blk wx B1 61 #[k, wv, b, f]
  kept : w.grownBy wx (some R)
theorem GSt.below {w wx w' : World} {R B0 B1 : Nat} {l : List UInt8} {ps : List Part} {s : St} {sv lv k wv b f : Value} (h : GSt w wx R B0 B1 l ps s sv lv k wv b f) (hb : Below wx.heap.size wx w') : GSt w w' R B0 B1 l ps s sv lv k wv b f := by
  obtain ⟨⟨nv, h1⟩, h2, h3, h4⟩ := h
  exact ⟨⟨nv, h1.below hb⟩, h2.below hb h2.lt, h3.below hb h3.lt, grown_via h4 hb⟩
theorem GSt.step {w wx w' : World} {R B0 B1 : Nat} {l : List UInt8} {ps : List Part} {s s' : St} {nv' sv lv k wv b f : Value} (h : GSt w wx R B0 B1 l ps s sv lv k wv b f) (hr : RdAt w' R l ps s' nv' sv lv) (hg : wx.grownBy w' (some R)) : GSt w w' R B0 B1 l ps s' sv lv k wv b f := by
  obtain ⟨⟨nv, h1⟩, h2, h3, h4⟩ := h
  have e0 := h2.ne_ h1.blk (by decide)
  have e1 := h3.ne_ h1.blk (by decide)
  exact ⟨⟨nv', hr⟩, h2.grown hg (fun e => e0 (by injection e)), h3.grown hg (fun e => e1 (by injection e)), grown_trans h4 hg⟩
theorem GSt.put {w wx : World} {R B0 B1 : Nat} {l : List UInt8} {ps : List Part} {s : St} {sv lv k wv b f k' wv' b' f' : Value} (h : GSt w wx R B0 B1 l ps s sv lv k wv b f) (hw : w.heap.size ≤ B1) (hB : B0 ≠ B1) (i : Nat) (v : Value) (he : #[k, wv, b, f].setIfInBounds i v = #[k', wv', b', f']) :
    GSt w (wx.setCell ⟨B1, i, none⟩ v) R B0 B1 l ps s sv lv k' wv' b' f' := by
  obtain ⟨⟨nv, h1⟩, h2, h3, h4⟩ := h
  have e1 := h1.blk.ne_ h3 (by decide)
  refine ⟨⟨nv, h1.blk.far e1 _, h1.list.kept (grownBy_setCell' wx B1 v |>.os |> fun _ => ⟨rfl, rfl, rfl, by simp, fun k _ hk => Below.heap_setCell wx ⟨B1, i, none⟩ v k (fun e => hk (by rw [e]))⟩) (.inr (own_blk_ne h1.list h3 (by decide)))⟩, h2.far hB _, by rw [← he]; exact h3.set_ i v, ?_⟩
  exact ⟨h4.os, h4.tape, h4.output, by simpa using h4.size, fun j hj hr => (Below.heap_setCell wx ⟨B1, i, none⟩ v j (by show j ≠ B1; omega)).trans (h4.block j hj hr)⟩
theorem GSt.rowed {w wx w' : World} {R B0 B1 : Nat} {l : List UInt8} {ps : List Part} {s : St} {sv lv k wv b f : Value} (h : GSt w wx R B0 B1 l ps s sv lv k wv b f) {row : Option Nat} (hg : wx.grownBy w' row)
    (hr : ∀ g, row = some g → w.heap.size ≤ g ∧ ∃ cur E, E ≠ 138 ∧ E ≠ 61 ∧ E ≠ 91 ∧ Blk wx g E cur) : GSt w w' R B0 B1 l ps s sv lv k wv b f := by
  obtain ⟨⟨nv, h1⟩, h2, h3, h4⟩ := h
  refine ⟨⟨nv, h1.grown hg (fun e => ?_) (fun g e => ?_)⟩, h2.grown hg (fun e => ?_), h3.grown hg (fun e => ?_), ?_⟩
  · obtain ⟨_, cur, E, e1, _, _, hb⟩ := hr R e
    exact hb.ne_ h1.blk e1 rfl
  · obtain ⟨_, cur, E, _, _, e3, hb⟩ := hr g e
    exact own_blk_ne h1.list hb (Ne.symm e3)
  · obtain ⟨_, cur, E, _, e2, _, hb⟩ := hr B0 e.symm
    exact hb.ne_ h2 e2 rfl
  · obtain ⟨_, cur, E, _, e2, _, hb⟩ := hr B1 e.symm
    exact hb.ne_ h3 e2 rfl
  · exact ⟨hg.os.trans h4.os, hg.tape.trans h4.tape, hg.output.trans h4.output, Nat.le_trans h4.size hg.size, fun j hj hjr => (hg.block j (Nat.lt_of_lt_of_le hj h4.size) (fun e => by have := (hr j e.symm).1; omega)).trans (h4.block j hj hjr)⟩
theorem Tabs.rowed {wx w' : World} {row : Option Nat} (h : Tabs wx) (hg : wx.grownBy w' row) (hr : ∀ g, row = some g → Far g) : Tabs w' :=
  h.keep (fun g h3 hl => hg.block g hl (by
    intro e
    have hR := hr g e.symm
    rcases h3 with h | h | h
    · exact hR.1 h
    · exact hR.2.1 h
    · exact hR.2.2 h))
theorem step_append_one {P : Program} {w : World} {ops : Array Oper} {o : Oper} {a : Act} {K : Act → World → Prop} {Q : Exit → Act → World → Prop} {E : Prop} (hgd : o.guard = none) (s x : Operand) (t : TypeId)
    (ho : o.op = .call { callee := .builtin .append, args := #[s, x], argTypes := #[t, t] })
    (base : Nat) (e : TypeId) (i : TypeInfo) (z : Value) (size bytes : Nat) (ht : P.underlying t = some (.slice e)) (hi : P.info? e = some i) (hz : i.zero = some z)
    (hsize : i.size = size) (hby : i.bytes = bytes) (hzs : z.cells.size = size) (hsz : 0 < size)
    (v : Value) (n : Nat) (xs : List Value) (hs : a.eval s = v) (hown : w.ownsRow base e size v n xs) (ad : Addr) (m c : Nat) (news : List Value) (hx : a.eval x = .slice (some ad) m c) (hn : news.length = m * size)
    (hc : ∀ j u, news[j]? = some u → w.cell? (ad.add j) = some u) (h1c : ∀ u ∈ news, u.oneCell' = true) (b1 : n + m ≤ maxLen) (b2 : (n + m) * bytes ≤ 140737488355328) (b3 : base ≤ w.heap.size)
    (h : ∀ v' w' row, w'.ownsRow base e size v' (n + m) (xs ++ news) → w.grownBy w' row → (row = none ∨ ∃ g cap cur, row = some g ∧ v = .slice (some ⟨g, 0, none⟩) n cap ∧ n + m ≤ cap ∧ w.heap[g]? = some (.cells cur e (0, 0)) ∧ cur.size = cap * size) → K (a.put o.dst v') w') :
    if Region.wanted o (yielded ops a.tmps) = true then Oper.wp P o a w K Q else E := by
  have hw : Region.wanted o (yielded ops a.tmps) = true := by simp [Region.wanted, hgd]
  rw [if_pos hw]
  obtain ⟨v', w', row, hrun, r1, r2, r3⟩ := run_append_one (P := P) w base t o.type e i z size bytes ht hi hz hsize hby hzs hsz v n xs hown ad m c news hn hc h1c b1 b2 b3
  unfold Oper.wp
  simp [execOp, ho, resolve, invoke, builtin, hs, hx, hrun, Result.andThen]
  exact h v' w' row r1 r2 r3
theorem takeP_ok {ps : List Part} {n : Nat} {nd : Part → Bool} {s : St} (h : (takeP ps n nd s).2.wrong < 0) : (takeP ps n nd s).2.i = s.i + 1 ∧ s.i < ps.length := by
  unfold takeP at h ⊢
  by_cases hw : 0 ≤ s.wrong
  · rw [if_pos hw] at h
    have h : s.wrong < 0 := h
    omega
  · rw [if_neg hw] at h ⊢
    by_cases hk : (lookP ps n s.i).kind = 0 ∨ nd (lookP ps n s.i) = false
    · rw [if_pos hk] at h
      have h : ((lookP ps n s.i).at_ : Int) < 0 := h
      omega
    · rw [if_neg hk] at h ⊢
      by_cases hr : 0 ≤ (lookP ps n s.i).wrong
      · rw [if_pos hr] at h
        have h : (lookP ps n s.i).wrong < 0 := h
        omega
      · rw [if_neg hr]
        refine ⟨rfl, ?_⟩
        by_cases hi : s.i < ps.length
        · exact hi
        · exfalso
          apply hk
          left
          unfold lookP; rw [List.getD_eq_getElem?_getD, List.getElem?_eq_none (by omega)]; rfl
def spansC (sp : List (Nat × Nat)) : List Value := sp.flatMap fun p => [.int .i64 p.1, .int .i64 p.2]
theorem spansC_snoc (sp : List (Nat × Nat)) (p : Nat × Nat) : spansC (sp ++ [p]) = spansC sp ++ [.int .i64 p.1, .int .i64 p.2] := by simp [spansC]
def spansN (ps : List Part) (n : Nat) (s : St) (sp : List (Nat × Nat)) : List (Nat × Nat) := if 0 ≤ (gateP ps n s).2.wrong then sp else sp ++ [spanP ps n s]
structure Kept (n0 R : Nat) (w w' : World) : Prop where
  os : w'.os = w.os
  tape : w'.tape = w.tape
  output : w'.output = w.output
  size : w.heap.size ≤ w'.heap.size
  block : ∀ j, j < w.heap.size → j ≠ R → (j < n0 ∨ ∀ cs, ¬ Blk w j 95 cs) → w'.heap[j]? = w.heap[j]?
theorem Kept.of {n0 R : Nat} {w w' : World} (h : w.grownBy w' (some R)) : Kept n0 R w w' :=
  ⟨h.os, h.tape, h.output, h.size, fun j hj hR _ => h.block j hj (fun e => hR (by injection e))⟩
theorem Kept.trans {n0 R : Nat} {w w' w'' : World} (h : Kept n0 R w w') (k : Kept n0 R w' w'') : Kept n0 R w w'' :=
  ⟨k.os.trans h.os, k.tape.trans h.tape, k.output.trans h.output, Nat.le_trans h.size k.size, fun j hj hR hc => (k.block j (Nat.lt_of_lt_of_le hj h.size) hR (hc.imp id fun hc cs hb => hc cs ((h.block j hj hR (.inr hc)).symm.trans hb))).trans (h.block j hj hR hc)⟩
theorem Kept.row {n0 R : Nat} {w w' : World} {row : Option Nat} (h : w.grownBy w' row) (hr : ∀ g, row = some g → n0 ≤ g ∧ ∃ cs, Blk w g 95 cs) : Kept n0 R w w' :=
  ⟨h.os, h.tape, h.output, h.size, fun j hj _ hc => h.block j hj (fun e => by
    obtain ⟨h1, cs, h2⟩ := hr j e.symm
    rcases hc with hc | hc
    · omega
    · exact hc cs h2)⟩
theorem Kept.below {n0 R : Nat} {w w' : World} (h : Below w.heap.size w w') : Kept n0 R w w' := ⟨h.os, h.tape, h.output, h.size, fun j hj _ _ => h.block j hj⟩
theorem grown_put4 (w : World) (b : Nat) (v0 v1 v2 v3 : Value) : w.grownBy ((((w.setCell ⟨b, 0, none⟩ v0).setCell ⟨b, 1, none⟩ v1).setCell ⟨b, 2, none⟩ v2).setCell ⟨b, 3, none⟩ v3) (some b) :=
  grown_set (grown_set (grown_set (grown_set ⟨rfl, rfl, rfl, Nat.le_refl _, fun _ _ _ => rfl⟩ 0 v0) 1 v1) 2 v2) 3 v3
theorem Kept.far {n0 R b : Nat} {w x y : World} (h : Kept n0 R w x) (hg : x.grownBy y (some b)) (hb : w.heap.size ≤ b) : Kept n0 R w y :=
  ⟨hg.os.trans h.os, hg.tape.trans h.tape, hg.output.trans h.output, Nat.le_trans h.size hg.size, fun j hj hR hc => (hg.block j (Nat.lt_of_lt_of_le hj h.size) (fun e => by injection e with e; omega)).trans (h.block j hj hR hc)⟩
theorem lookP_mem {ps : List Part} {n i : Nat} (h : i < ps.length) : lookP ps n i ∈ ps := by
  unfold lookP; rw [List.getD_eq_getElem?_getD, List.getElem?_eq_getElem h]; exact List.getElem_mem _
theorem list_part {w : World} {lv : Value} {n i : Nat} {ps : List Part} (h : w.ownsRow 0 91 4 lv ps.length (partsC ps)) (hi : i < ps.length) :
    ∃ g c, lv = .slice (some ⟨g, 0, none⟩) ps.length c ∧ ps.length ≤ c ∧ c ≤ maxLen ∧ w.cell? ⟨g, i * 4, none⟩ = some (.int .i64 (lookP ps n i).at_) ∧ w.cell? ⟨g, i * 4 + 1, none⟩ = some (.int .i64 (lookP ps n i).kind) ∧
      w.cell? ⟨g, i * 4 + 2, none⟩ = some (.string (bs (lookP ps n i).text)) ∧ w.cell? ⟨g, i * 4 + 3, none⟩ = some (.int .i64 (lookP ps n i).wrong) := by
  rcases h.2 with ⟨_, h0⟩ | ⟨g, c, cur, rfl, _, hg, hnc, hcm, hcs, htk⟩
  · omega
  · have hp : ps[i]? = some (lookP ps n i) := by
      unfold lookP
      rw [List.getD_eq_getElem?_getD, List.getElem?_eq_getElem hi]; rfl
    have hcell : ∀ j, j < 4 → w.cell? ⟨g, i * 4 + j, none⟩ = (partC (lookP ps n i))[j]? := fun j hj => by
      rw [cell_of_row w g _ cur _ (0, 0) hg, ← partsC_get hp j hj, ← htk, List.getElem?_take, if_pos (by omega)]
      simp
    exact ⟨g, c, rfl, hnc, hcm, hcell 0 (by decide), hcell 1 (by decide), hcell 2 (by decide), hcell 3 (by decide)⟩
theorem infoSpan : (Tryz.prog.info? 95).map (fun i => (i.zero, i.size, i.bytes)) = some (some (.agg #[.int .i64 0, .int .i64 0]), 2, 16) := by kernel_rfl
theorem infoInt : (Tryz.prog.info? 3).map (fun i => (i.zero, i.size, i.bytes)) = some (some (.int .i64 0), 1, 8) := by kernel_rfl
theorem Tabs.set {wx : World} {B i : Nat} {v : Value} (h : Tabs wx) (hF : Far B) : Tabs (wx.setCell ⟨B, i, none⟩ v) :=
  h.keep (fun g hg _ => Below.heap_setCell wx ⟨B, i, none⟩ v g (by
    show g ≠ B
    rintro rfl
    rcases hg with h | h | h
    · exact hF.1 h
    · exact hF.2.1 h
    · exact hF.2.2 h))
set_option maxRecDepth 100000 in
set_option maxHeartbeats 8000000 in
theorem gate_rd (R : Nat) (hR : Far R) (l : List UInt8) (ps : List Part) (s : St) (nv sv lv : Value) (hps : ps.length ≤ 1000000) (ho : OkP ps) (hlen : ∀ p ∈ ps, p.text.length ≤ 1000000) (w : World) (h : RdAt w R l ps s nv sv lv) (hi : s.i ≤ ps.length) (ht : Tabs w)
    (n0 : Nat) (hn0 : n0 ≤ w.heap.size) (hF0 : ∀ g, n0 ≤ g → Far g) (sp : List (Nat × Nat)) (hspl : sp.length ≤ 1000000) (hsp : w.ownsRow n0 95 2 sv sp.length (spansC sp)) (hpat : ∀ p ∈ ps, p.at_ ≤ 1000000) (hll : l.length ≤ 1000000) :
    Calls Tryz.prog 89 #[.pointer (some ⟨R, 0, none⟩)] w fun e w' => ∃ nv' sv' wv, e = .returned (.agg #[.int .i64 (gateP ps l.length s).1.kind, wv, .int .i64 (gateP ps l.length s).1.bit, .int .i64 (gateP ps l.length s).1.ifn]) ∧
      w'.ownsRow w.heap.size 3 1 wv (gateP ps l.length s).1.wires.length ((gateP ps l.length s).1.wires.map (Value.int .i64)) ∧ RdAt w' R l ps (gateP ps l.length s).2 nv' sv' lv ∧
      w'.ownsRow n0 95 2 sv' (spansN ps l.length s sp).length (spansC (spansN ps l.length s sp)) ∧ Kept n0 R w w' ∧ Tabs w' := by
  have hspl := Lib.hid hspl
  have hsp := Lib.hid hsp
  have hpat := Lib.hid hpat
  have hll := Lib.hid hll
  have hn0 := Lib.hid hn0
  have hF0 := Lib.hid hF0
  have h0 : GSt w ((w.alloc (.cells #[.int .i64 0, .slice none 0 0, .int .i64 0, .int .i64 0] 61)).alloc (.cells #[.int .i64 0, .slice none 0 0, .int .i64 0, .int .i64 0] 61)) R w.heap.size (w.heap.size + 1) l ps s sv lv (.int .i64 0) (.slice none 0 0) (.int .i64 0) (.int .i64 0) :=
    ⟨⟨nv, h.below (below2 _ _ _)⟩, (Blk.new w _ _).alloc _, Blk.at_ _ _ _ (by simp), grown_below (below2 _ _ _) _⟩
  have ht0 := ht.below (below2 w (.cells #[.int .i64 0, .slice none 0 0, .int .i64 0, .int .i64 0] 61) (.cells #[.int .i64 0, .slice none 0 0, .int .i64 0, .int .i64 0] 61))
  have hRl := h.blk.lt
  obtain ⟨i0, hinf, hz0, hz1, hz2⟩ := info_parts infoInt
  have hFar := Lib.hid (fun g (hg : w.heap.size ≤ g) => ht.far hg)
  have hF := ht.far (show w.heap.size ≤ w.heap.size + 1 by omega)
  have hf1 : ∀ x0 x1 x2 x3 w, (Instr.field 91 (.agg #[x0, x1, x2, x3]) 0).run Tryz.prog w = .ok (.agg #[x0, x1, x2]) w := fun _ _ _ _ _ => by kernel_rfl
  have hf2 : ∀ x0 x1 x2 w, (Instr.field 53 (.agg #[x0, x1, x2]) 0).run Tryz.prog w = .ok x0 w := fun _ _ _ _ => by kernel_rfl
  go_enter Tryz.func89, Tryz.ntmps89
  go_upto_region 2 with fail
  generalize (w.alloc (.cells #[.int .i64 0, .slice none 0 0, .int .i64 0, .int .i64 0] 61)).alloc (.cells #[.int .i64 0, .slice none 0 0, .int .i64 0, .int .i64 0] 61) = wa at *
  obtain ⟨nv1, hr0⟩ := h0.rd
  go_wp2_with fail
  refine (look_calls R l ps s _ _ _ _ hr0).mono ?_
  rintro e w1 ⟨he, hb1⟩
  unfold partV at he
  subst he
  have h0 := h0.below hb1
  have ht0 := ht0.below hb1
  obtain ⟨nv2, hr0⟩ := h0.rd
  go_wp2_with fail
  refine (begins_calls R l ps s _ _ _ [105, 102] _ hr0).mono ?_
  rintro e w2 ⟨rfl, hb2⟩
  have h0 := h0.below hb2
  have ht0 := ht0.below hb2
  clear hb1 hb2 hr0 hf1 hf2
  go_upto_if 11 with fail
  go_cut [] (fun wx => GSt w wx R w.heap.size (w.heap.size + 1) l ps (ifP ps l.length s).2 sv lv (.int .i64 0) (.slice none 0 0) (.int .i64 0) (.int .i64 (ifP ps l.length s).1) ∧ Tabs wx ∧ (ifP ps l.length s).2.i ≤ ps.length ∧ 0 ≤ (ifP ps l.length s).1 ∧ (ifP ps l.length s).1 ≤ 1000)
  case first =>
    cases hbg : beginsP ps l.length [105, 102] s
    · have Hv : Hid (ifP ps l.length s = (0, s)) := by show _ = _; unfold ifP; rw [if_neg (by rw [hbg]; decide)]
      clear hbg
      go_wp2_with fail
      go_meet
      rw [Hv.out]
      exact ⟨h0, ht0, hi, by show (0 : Int) ≤ 0; decide, by show (0 : Int) ≤ 1000; decide⟩
    · have Hv : Hid (ifP ps l.length s = ((numP ps l.length (takeP ps l.length (isT [105, 102]) s).2).1 + 1, (takeP ps l.length (isT [58]) (numP ps l.length (takeP ps l.length (isT [105, 102]) s).2).2).2)) := by show _ = _; unfold ifP; rw [if_pos hbg]
      clear hbg
      have hi1 : (takeP ps l.length (isT [105, 102]) s).2.i ≤ ps.length := takeP_i hi
      have hT1 := Lib.hid (fun Bc nv W h hc => take_is [105, 102] Bc R l ps s nv sv lv hps W h hc hi)
      generalize takeP ps l.length (isT [105, 102]) s = t1 at *
      obtain ⟨u1, s1⟩ := t1
      dsimp only at hT1 hi1 Hv
      have hn1 := numP_le (n := l.length) (s := s1) ho
      have hi2 : (numP ps l.length s1).2.i ≤ ps.length := takeP_i hi1
      have hN := Lib.hid (fun nv W h ht => number_calls R hR l ps s1 nv sv lv hps ho W h hi1 ht)
      generalize numP ps l.length s1 = t2 at *
      obtain ⟨m, s2⟩ := t2
      dsimp only at hN hi2 Hv hn1
      have hi3 : (takeP ps l.length (isT [58]) s2).2.i ≤ ps.length := takeP_i hi2
      have hT2 := Lib.hid (fun Bc nv W h hc => take_is [58] Bc R l ps s2 nv sv lv hps W h hc hi2)
      generalize takeP ps l.length (isT [58]) s2 = t3 at *
      obtain ⟨u3, s3⟩ := t3
      dsimp only at hT2 hi3 Hv
      obtain ⟨hn0, hn9⟩ := hn1
      go_wp2_with fail
      refine (is_calls [105, 102] _).mono ?_
      rintro e w3 ⟨rfl, rfl⟩
      have h1 := h0.below (below1 _ (.cells #[.string (bs [105, 102])] 9))
      have ht1 := ht0.below (below1 _ (.cells #[.string (bs [105, 102])] 9))
      obtain ⟨nv3, hr1⟩ := h1.rd
      go_wp2_with fail
      refine (hT1.out w2.heap.size nv3 _ hr1 (Blk.new _ _ _)).mono ?_
      rintro e w3 ⟨rfl, hr2, hg2⟩
      have h2 := h1.step hr2 hg2
      have ht2 := ht1.grown hR hg2
      clear hT1 hr1 h1 ht1 h0 ht0
      go_wp2_with fail
      refine (hN.out _ _ hr2 ht2).mono ?_
      rintro e w4 ⟨rfl, hr3, hg3⟩
      have h3 := h2.step hr3 hg3
      have ht3 := ht2.grown hR hg3
      clear hN hr2 hg2 h2 ht2
      obtain ⟨y0, y1, y2, y3, yf⟩ := h3.g.cells4
      have h4 : GSt w (w4.setCell ⟨w.heap.size + 1, 3, none⟩ (.int .i64 (m + 1))) R w.heap.size (w.heap.size + 1) l ps s2 sv lv (.int .i64 0) (.slice none 0 0) (.int .i64 0) (.int .i64 (m + 1)) := h3.put (by omega) (by omega) 3 (.int .i64 (m + 1)) rfl
      have ht4 : Tabs (w4.setCell ⟨w.heap.size + 1, 3, none⟩ (.int .i64 (m + 1))) := ht3.set hF
      go_wp2_with fail
      refine (is_calls [58] _).mono ?_
      rintro e w5 ⟨rfl, rfl⟩
      have h5 := h4.below (below1 _ (.cells #[.string (bs [58])] 9))
      have ht5 := ht4.below (below1 _ (.cells #[.string (bs [58])] 9))
      obtain ⟨nv5, hr5⟩ := h5.rd
      clear h3 ht3 hr3 hg3 h4 ht4 y0 y1 y2 y3 yf
      go_wp2_with fail
      refine (hT2.out w4.heap.size nv5 _ hr5 (Blk.at_ (w4.setCell ⟨w.heap.size + 1, 3, none⟩ (.int .i64 (m + 1))) 9 _ (World.size_setCell _ _ _))).mono ?_
      rintro e w6 ⟨rfl, hr6, hg6⟩
      have h6 := h5.step hr6 hg6
      have ht6 := ht5.grown hR hg6
      go_wp2_with fail
      go_meet
      rw [Hv.out]
      exact ⟨h6, ht6, hi3, by show (0 : Int) ≤ m + 1; omega, by show m + 1 ≤ (1000 : Int); omega⟩
  case rest =>
    clear h0 ht0
    obtain ⟨h0, ht0, hi1, hf0, hf9⟩ := hcut
    have Hg : Hid (gateP ps l.length s = (⟨(kindP ps l.length (ifP ps l.length s).2).1, (wiresP ps l.length (arity (kindP ps l.length (ifP ps l.length s).2).1).toNat (kindP ps l.length (ifP ps l.length s).2).2).1, (bitP ps l.length (kindP ps l.length (ifP ps l.length s).2).1 (wiresP ps l.length (arity (kindP ps l.length (ifP ps l.length s).2).1).toNat (kindP ps l.length (ifP ps l.length s).2).2).2).1, (ifP ps l.length s).1⟩,
      (takeP ps l.length (isT [59]) (bitP ps l.length (kindP ps l.length (ifP ps l.length s).2).1 (wiresP ps l.length (arity (kindP ps l.length (ifP ps l.length s).2).1).toNat (kindP ps l.length (ifP ps l.length s).2).2).2).2).2)) := rfl
    generalize ifP ps l.length s = t1 at *
    obtain ⟨f1, s1⟩ := t1
    dsimp only at h0 hi1 hf0 hf9 Hg
    have hi2 : (kindP ps l.length s1).2.i ≤ ps.length := takeP_i hi1
    have hT := Lib.hid (fun nv W h => take_kind R l ps s1 nv sv lv hps hlen W h hi1)
    have hlk := takeP_len (n := l.length) (nd := isK) (s := s1) hlen
    have Hk : Hid (kindP ps l.length s1 = (kindW (takeP ps l.length isK s1).1, (takeP ps l.length isK s1).2)) := rfl
    have hk14 : Hid (∀ t, 0 ≤ kindW t ∧ kindW t ≤ 14) := fun t => kindW_le t
    generalize takeP ps l.length isK s1 = t2 at *
    obtain ⟨u2, s2⟩ := t2
    rw [Hk.out] at hi2 Hg
    dsimp only at hT hlk hi2 Hg
    obtain ⟨hk0, hk9⟩ := hk14.out u2
    obtain ⟨nv1, hr1⟩ := h0.rd
    go_wp2_with fail
    refine (words_calls _).mono ?_
    rintro e w3 ⟨B, rfl, hown, hb3⟩
    have h1 := h0.below hb3
    have ht1 := ht0.below hb3
    obtain ⟨nv2, hr2⟩ := h1.rd
    go_wp2_with fail
    refine (hT.out nv2 _ hr2).mono ?_
    rintro e w4 ⟨rfl, hr4, hg4⟩
    have h2 := h1.step hr4 hg4
    have ht2 := ht1.grown hR hg4
    have hown4 := hown.kept hg4 (by
      intro e; injection e with e
      obtain ⟨es, clock, hb, _⟩ := hown
      have := hr2.blk
      unfold Blk at this
      rw [← e, hb] at this
      cases this)
    have hlook := words_look hown4 u2 hlk
    clear h0 ht0 h1 ht1 hr1 hr2 hown hb3 hown4 hg4 hr4 hT
    generalize kindW u2 = k at *
    obtain ⟨y0, y1, y2, y3, yf⟩ := h2.g.cells4
    have h3 : GSt w (w4.setCell ⟨w.heap.size + 1, 0, none⟩ (.int .i64 k)) R w.heap.size (w.heap.size + 1) l ps s2 sv lv (.int .i64 k) (.slice none 0 0) (.int .i64 0) (.int .i64 f1) := h2.put (by omega) (by omega) 0 (.int .i64 k) rfl
    have ht3 : Tabs (w4.setCell ⟨w.heap.size + 1, 0, none⟩ (.int .i64 k)) := ht2.set hF
    have HAr := Lib.hid (fun W => Arity_calls k W)
    have Har : Hid (0 ≤ arity k ∧ arity k ≤ 3) := by
      show _ ∧ _; unfold arity; repeat' split
      all_goals omega
    obtain ⟨n, hn⟩ : ∃ n : Nat, arity k = (n : Int) := ⟨(arity k).toNat, by have := Har.out; omega⟩
    have hn3 : n ≤ 3 := by have := Har.out; omega
    rw [hn, Int.toNat_natCast] at Hg
    rw [hn] at HAr
    go_upto_block 0 with (go_at_call 77; (with_reducible refine (HAr.out _).mono ?_); rintro e w5 ⟨rfl, rfl⟩)
    generalize w4.setCell ⟨w.heap.size + 1, 0, none⟩ (.int .i64 k) = w5 at *
    clear h2 ht2 hlook y0 y1 y2 y3 yf HAr Har hn
    go_cut [30] (fun _ wx => ∃ wv, GSt w wx R w.heap.size (w.heap.size + 1) l ps (wiresP ps l.length n s2).2 sv lv (.int .i64 k) wv (.int .i64 0) (.int .i64 f1) ∧ wx.ownsRow w.heap.size 3 1 wv (wiresP ps l.length n s2).1.length ((wiresP ps l.length n s2).1.map (Value.int .i64)) ∧ Tabs wx ∧ (wiresP ps l.length n s2).2.i ≤ ps.length)
    case first =>
      go_wp2_with fail
      go_loopg [30] n (fun gk i wr => ∃ (j : Nat) (pre : List Int) (sj : St) (wv : Value), j + gk = n ∧ i = .int .i64 j ∧ pre.length = j ∧ wiresP ps l.length n s2 = (pre ++ (wiresP ps l.length gk sj).1, (wiresP ps l.length gk sj).2) ∧
        GSt w wr R w.heap.size (w.heap.size + 1) l ps sj sv lv (.int .i64 k) wv (.int .i64 0) (.int .i64 f1) ∧ wr.ownsRow w.heap.size 3 1 wv pre.length (pre.map (Value.int .i64)) ∧ Tabs wr ∧ sj.i ≤ ps.length)
      case atStart => exact ⟨0, [], s2, .slice none 0 0, by omega, rfl, rfl, rfl, h3, World.ownsRow_nil _ _ _ _, ht3, hi2⟩
      case round =>
        clear h3 ht3
        obtain ⟨j, pre, sj, wv, hj, rfl, hpl, hw, h4, hrow, ht4, hij⟩ := hrel
        obtain rfl : j = pre.length := hpl.symm
        clear hpl
        have Hw := Lib.hid hw
        clear hw
        cases gk with
        | zero =>
          obtain rfl : pre.length = n := by omega
          go_wp2_with fail
          go_meet
          rw [Hw.out]
          exact ⟨wv, h4, by simp only [wiresP, List.append_nil]; exact hrow, ht4, hij⟩
        | succ g =>
          have hjn : pre.length < n := by omega
          have hi5 : (numP ps l.length sj).2.i ≤ ps.length := takeP_i hij
          have hN := Lib.hid (fun nv W h ht => number_calls R hR l ps sj nv sv lv hps ho W h hij ht)
          have Hw2 : Hid (wiresP ps l.length n s2 = ((pre ++ [(numP ps l.length sj).1]) ++ (wiresP ps l.length g (numP ps l.length sj).2).1, (wiresP ps l.length g (numP ps l.length sj).2).2)) := by
            show _ = _; rw [Hw.out, wiresP]; simp
          generalize numP ps l.length sj = t at *
          obtain ⟨m, sk⟩ := t
          dsimp only at hi5 hN Hw2
          obtain ⟨A, cc, rfl⟩ := own_form hrow
          obtain ⟨nv4, hr4⟩ := h4.rd
          go_wp2_with fail
          have h4 := h4.below ((Below.refl _ _).drew)
          have ht4 := ht4.below ((Below.refl _ _).drew)
          have hrow : wr.drew.ownsRow w.heap.size 3 1 (.slice A pre.length cc) pre.length (pre.map (Value.int .i64)) := hrow
          have hr4 : RdAt wr.drew R l ps sj nv4 sv lv := ⟨hr4.blk.drew, hr4.list⟩
          obtain ⟨y0, y1, y2, y3, yf⟩ := h4.g.cells4
          have hml : pre.length + 1 ≤ maxLen := by unfold maxLen; omega
          go_region_law (first
              | (go_simp; go_at_call 87; (with_reducible refine (hN.out _ _ hr4 ht4).mono ?_); rintro e w6 ⟨rfl, hr6, hg6⟩; have h6 := h4.step hr6 hg6; have ht6 := ht4.grown hR hg6; have hrow6 := hrow.kept hg6 (.inr (own_blk_ne hrow hr4.blk (by decide))); clear y0 y1 y2 y3 yf; obtain ⟨y0, y1, y2, y3, yf⟩ := h6.g.cells4; have hgl : w.heap.size + 1 < w6.heap.size := h6.g.lt; have y1b : (w6.alloc (.cells #[.int .i64 m] 3)).cell? ⟨w.heap.size + 1, 1, none⟩ = some (.slice A pre.length cc) := (World.cell?_alloc_lt _ _ _ hgl).trans y1)
              | (refine step_append_one rfl _ _ 30 rfl w.heap.size 3 i0 _ 1 8 Tryz.underlying30 hinf hz0 hz1 hz2 rfl (by decide) (.slice A pre.length cc) pre.length (pre.map (Value.int .i64)) rfl (hrow6.alloc _) ⟨w6.heap.size, 0, none⟩ 1 1 [.int .i64 m] rfl rfl (row_new _ _ _) (by simp [Value.oneCell']) hml (by omega) (by have := h6.kept.size; simp; omega) ?_; intro v' w7 row hown' hgrow hrr; obtain ⟨g', cap', rfl⟩ := ownsRow_succ hown'; have hrr2 : ∀ g, row = some g → w.heap.size ≤ g ∧ ∃ cur E, E ≠ 138 ∧ E ≠ 61 ∧ E ≠ 91 ∧ Blk (w6.alloc (.cells #[.int .i64 m] 3)) g E cur := (fun g e => by rcases hrr with h | ⟨g2, cap2, cur2, h2, hv2, _, hb2, _⟩; (rw [h] at e; cases e); (rw [h2] at e; injection e with e; subst e; exact ⟨(hrow6.lt g2 (by rw [hv2]; rfl)).1, cur2, _, by decide, by decide, by decide, hb2⟩)); have h7 := (h6.below (below1 w6 (.cells #[.int .i64 m] 3))).rowed hgrow hrr2; have ht7 := (ht6.below (below1 w6 (.cells #[.int .i64 m] 3))).rowed hgrow (fun g e => hFar.out g (hrr2 g e).1); clear y0 y1 y2 y3 yf y1b; obtain ⟨y0, y1, y2, y3, yf⟩ := h7.g.cells4))
          all_goals
            clear hN
            have hpl : (pre.map (Value.int .i64) ++ [Value.int .i64 m]) = (pre ++ [m]).map (Value.int .i64) := by simp
            rw [hpl] at hown'
            have hpl2 : (pre ++ [m]).length = pre.length + 1 := by simp
            have Hpl2 := Lib.hid hpl2
            clear hpl hpl2
            have h8 : GSt w (w7.setCell ⟨w.heap.size + 1, 1, none⟩ (.slice (some ⟨g', 0, none⟩) (pre.length + 1) cap')) R w.heap.size (w.heap.size + 1) l ps sk sv lv (.int .i64 k) (.slice (some ⟨g', 0, none⟩) (pre.length + 1) cap') (.int .i64 0) (.int .i64 f1) := h7.put (by omega) (by omega) 1 _ rfl
            have ht8 : Tabs (w7.setCell ⟨w.heap.size + 1, 1, none⟩ (.slice (some ⟨g', 0, none⟩) (pre.length + 1) cap')) := ht7.set hF
            have hown8 : (w7.setCell ⟨w.heap.size + 1, 1, none⟩ (.slice (some ⟨g', 0, none⟩) (pre.length + 1) cap')).ownsRow w.heap.size 3 1 (.slice (some ⟨g', 0, none⟩) (pre.length + 1) cap') (pre ++ [m]).length ((pre ++ [m]).map (Value.int .i64)) := by
              rw [Hpl2.out]
              exact hown'.kept (row := some (w.heap.size + 1)) ⟨rfl, rfl, rfl, by simp, fun k _ hk => Below.heap_setCell _ _ _ k (fun e => hk (by rw [e]))⟩ (.inr (own_blk_ne hown' h7.g (by decide)))
            go_wp2_with fail
            go_roundg g
            case measure => omega
            case rel => exact ⟨pre.length + 1, pre ++ [m], sk, _, by omega, by go_num, Hpl2.out, Hw2.out, h8, hown8, ht8, hi5⟩
    case rest =>
      clear h3 ht3
      obtain ⟨wv, h4, hrow, ht4, hi3⟩ := hcut
      generalize wiresP ps l.length n s2 = t3 at *
      obtain ⟨zs, s3⟩ := t3
      dsimp only at h4 hrow hi3 Hg
      obtain ⟨A, cc, rfl⟩ := own_form hrow
      obtain ⟨y0, y1, y2, y3, yf⟩ := h4.g.cells4
      go_upto_if 42 with fail
      clear y0 y1 y2 y3 yf
      go_cut [] (fun wx => GSt w wx R w.heap.size (w.heap.size + 1) l ps (bitP ps l.length k s3).2 sv lv (.int .i64 k) (.slice A zs.length cc) (.int .i64 (bitP ps l.length k s3).1) (.int .i64 f1) ∧ wx.ownsRow w.heap.size 3 1 (.slice A zs.length cc) zs.length (zs.map (Value.int .i64)) ∧ Tabs wx ∧ (bitP ps l.length k s3).2.i ≤ ps.length ∧ 0 ≤ (bitP ps l.length k s3).1 ∧ (bitP ps l.length k s3).1 ≤ 999)
      case first =>
        by_cases hk : k = 13
        · have Hb : Hid (bitP ps l.length k s3 = numP ps l.length s3) := by show _ = _; unfold bitP; rw [if_pos hk]
          subst hk
          have hn1 := numP_le (n := l.length) (s := s3) ho
          have hi5 : (numP ps l.length s3).2.i ≤ ps.length := takeP_i hi3
          have hN := Lib.hid (fun nv W h ht => number_calls R hR l ps s3 nv sv lv hps ho W h hi3 ht)
          generalize numP ps l.length s3 = t at *
          obtain ⟨m, sk⟩ := t
          dsimp only at hi5 hN hn1
          obtain ⟨nv4, hr4⟩ := h4.rd
          go_wp2_with fail
          refine (hN.out _ _ hr4 ht4).mono ?_
          rintro e w6 ⟨rfl, hr6, hg6⟩
          have h6 := h4.step hr6 hg6
          have ht6 := ht4.grown hR hg6
          have hrow6 := hrow.kept hg6 (.inr (own_blk_ne hrow hr4.blk (by decide)))
          have h7 : GSt w (w6.setCell ⟨w.heap.size + 1, 2, none⟩ (.int .i64 m)) R w.heap.size (w.heap.size + 1) l ps sk sv lv (.int .i64 13) (.slice A zs.length cc) (.int .i64 m) (.int .i64 f1) := h6.put (by omega) (by omega) 2 _ rfl
          have ht7 : Tabs (w6.setCell ⟨w.heap.size + 1, 2, none⟩ (.int .i64 m)) := ht6.set hF
          have hrow7 : (w6.setCell ⟨w.heap.size + 1, 2, none⟩ (.int .i64 m)).ownsRow w.heap.size 3 1 (.slice A zs.length cc) zs.length (zs.map (Value.int .i64)) :=
            hrow6.kept (row := some (w.heap.size + 1)) ⟨rfl, rfl, rfl, by simp, fun k _ hk => Below.heap_setCell _ _ _ k (fun e => hk (by rw [e]))⟩ (.inr (own_blk_ne hrow6 h6.g (by decide)))
          obtain ⟨y0, y1, y2, y3, yf⟩ := h6.g.cells4
          clear hN
          go_wp2_with fail
          go_meet
          rw [Hb.out]
          exact ⟨h7, hrow7, ht7, hi5, hn1.1, hn1.2⟩
        · have Hb : Hid (bitP ps l.length k s3 = (0, s3)) := by show _ = _; unfold bitP; rw [if_neg hk]
          go_wp2_with fail
          go_meet
          rw [Hb.out]
          exact ⟨h4, hrow, ht4, hi3, by show (0 : Int) ≤ 0; decide, by show (0 : Int) ≤ 999; decide⟩
      case rest =>
        clear h4 hrow ht4
        obtain ⟨h5, hrow5, ht5, hi5, hb0, hb9⟩ := hcut
        generalize bitP ps l.length k s3 = t at *
        obtain ⟨b, s4⟩ := t
        dsimp only at h5 hi5 hb0 hb9 Hg
        have hT := Lib.hid (fun Bc nv W h hc => take_is [59] Bc R l ps s4 nv sv lv hps W h hc hi5)
        have hok := Lib.hid (takeP_ok (ps := ps) (n := l.length) (nd := isT [59]) (s := s4))
        generalize takeP ps l.length (isT [59]) s4 = t at *
        obtain ⟨u6, s6⟩ := t
        dsimp only at hT hok Hg
        go_wp2_with fail
        refine (is_calls [59] _).mono ?_
        rintro e w7 ⟨rfl, rfl⟩
        rename_i wy _ _
        have h6 := h5.below (below1 _ (.cells #[.string (bs [59])] 9))
        have ht6 := ht5.below (below1 _ (.cells #[.string (bs [59])] 9))
        have hrow6 := own_below hrow5 (below1 _ (.cells #[.string (bs [59])] 9)) (Nat.le_refl _)
        obtain ⟨nv6, hr6⟩ := h6.rd
        go_wp2_with fail
        refine (hT.out _ nv6 _ hr6 (Blk.new _ _ _)).mono ?_
        rintro e w8 ⟨rfl, hr8, hg8⟩
        have h8 := h6.step hr8 hg8
        have ht8 := ht6.grown hR hg8
        have hrow8 := hrow6.kept hg8 (.inr (own_blk_ne hrow6 hr6.blk (by decide)))
        clear h5 ht5 hrow5 h6 ht6 hrow6 hr6 hg8 hT
        obtain ⟨y0, y1, y2, y3, y4, y5, yf⟩ := hr8.blk.cells6
        go_upto_if 53 with fail
        clear y0 y1 y2 y3 y4 y5 yf
        go_cut [] (fun wx => ∃ nv' sv', Blk wx w.heap.size 61 #[.int .i64 0, .slice none 0 0, .int .i64 0, .int .i64 0] ∧ Blk wx (w.heap.size + 1) 61 #[.int .i64 k, .slice A zs.length cc, .int .i64 b, .int .i64 f1] ∧ RdAt wx R l ps s6 nv' sv' lv ∧
          (∃ sp', sp' = (if 0 ≤ s6.wrong then sp else sp ++ [((lookP ps l.length s.i).at_, (lookP ps l.length (s6.i - 1)).at_ + 1)]) ∧ wx.ownsRow n0 95 2 sv' sp'.length (spansC sp')) ∧ wx.ownsRow w.heap.size 3 1 (.slice A zs.length cc) zs.length (zs.map (Value.int .i64)) ∧ Kept n0 R w wx ∧ Tabs wx)
        case first =>
          have hspw := hsp.out.kept h8.kept (.inr (own_blk_ne hsp.out h.blk (by decide)))
          by_cases hw : s6.wrong < 0
          · obtain ⟨hs6, hs4⟩ := hok.out hw
            have Hif : Hid ((if 0 ≤ s6.wrong then sp else sp ++ [((lookP ps l.length s.i).at_, (lookP ps l.length (s6.i - 1)).at_ + 1)]) = sp ++ [((lookP ps l.length s.i).at_, (lookP ps l.length s4.i).at_ + 1)]) := by
              show _ = _; rw [if_neg (by omega), hs6, Nat.add_sub_cancel]
            have hp1 := hpat.out _ (lookP_mem (n := l.length) hs4)
            obtain ⟨gl, c, rfl, hc1, hc2, k0, k1, k2, k3⟩ := list_part (n := l.length) hr8.list hs4
            have hgl : gl < w8.heap.size := World.block_lt_of_cell? w8 ⟨gl, s4.i * 4, none⟩ k0
            have hRw : R < w8.heap.size := hr8.blk.lt
            unfold maxLen at hc2
            have hb9 := hr8.blk
            have e6 : ((s6.i : Nat) : Int) = (s4.i : Int) + 1 := by omega
            rw [e6] at hb9
            obtain ⟨b0, b1, b2, b3, b4, b5, bf⟩ := hb9.cells6
            have hsub : IntKind.i64.wrap ((s4.i : Int) + 1 - 1) = s4.i := by rw [Int.add_sub_cancel]; exact IntWalk.i64_in _ (by omega)
            have hsub2 : IntKind.i64.wrap ((s4.i : Int)) = s4.i := IntWalk.i64_in _ (by omega)
            have hS := Lib.hid (fun W (hb : Below w8.heap.size w8 W) => (show W.cell? ⟨R, 1, none⟩ = some (.slice (some ⟨gl, 0, none⟩) ps.length c) ∧ W.cell? ⟨R, 2, none⟩ = some (.int .i64 ((s4.i : Int) + 1)) ∧ W.cell? ⟨gl, s4.i * 4, none⟩ = some (.int .i64 (lookP ps l.length s4.i).at_) ∧ W.cell? ⟨gl, s4.i * 4 + 1, none⟩ = some (.int .i64 (lookP ps l.length s4.i).kind) ∧
                W.cell? ⟨gl, s4.i * 4 + 2, none⟩ = some (.string (bs (lookP ps l.length s4.i).text)) ∧ W.cell? ⟨gl, s4.i * 4 + 3, none⟩ = some (.int .i64 (lookP ps l.length s4.i).wrong) from
              ⟨(hb.cell (p := ⟨R, 1, none⟩) hRw).trans b1, (hb.cell (p := ⟨R, 2, none⟩) hRw).trans b2, (hb.cell (p := ⟨gl, s4.i * 4, none⟩) hgl).trans k0, (hb.cell (p := ⟨gl, s4.i * 4 + 1, none⟩) hgl).trans k1, (hb.cell (p := ⟨gl, s4.i * 4 + 2, none⟩) hgl).trans k2, (hb.cell (p := ⟨gl, s4.i * 4 + 3, none⟩) hgl).trans k3⟩))
            clear e6 hs6 hok k0 k1 k2 k3 b0 b1 b2 b3 b4 b5 bf hb9
            obtain ⟨y0, y1, y2, y3, y4, y5, yf⟩ := hr8.blk.cells6
            generalize lookP ps l.length s4.i = p at *
            go_wp2_with fail
            clear y0 y1 y2 y3 y4 y5 yf
            go_region_held3 (fun W => W.cell? ⟨R, 1, none⟩ = some (.slice (some ⟨gl, 0, none⟩) ps.length c) ∧ W.cell? ⟨R, 2, none⟩ = some (.int .i64 ((s4.i : Int) + 1)) ∧ W.cell? ⟨gl, s4.i * 4, none⟩ = some (.int .i64 p.at_) ∧ W.cell? ⟨gl, s4.i * 4 + 1, none⟩ = some (.int .i64 p.kind) ∧ W.cell? ⟨gl, s4.i * 4 + 2, none⟩ = some (.string (bs p.text)) ∧ W.cell? ⟨gl, s4.i * 4 + 3, none⟩ = some (.int .i64 p.wrong))
              (exact hS.out _ (by first | exact (Below.refl _ _).drew | exact (Below.refl _ _).drew.alloc (by simp) _ | exact below_put4 ((Below.refl _ _).drew.alloc (by simp) _) (by simp) _ _ _ _)) (fail)
            have hbW : Below w8.heap.size w8 (w8.alloc (.cells #[.int .i64 p.at_, .int .i64 p.kind, .string (bs p.text), .int .i64 p.wrong] 91)).drew := (below1 _ _).drew
            have hpB : Blk (w8.alloc (.cells #[.int .i64 p.at_, .int .i64 p.kind, .string (bs p.text), .int .i64 p.wrong] 91)).drew w8.heap.size 91 #[.int .i64 p.at_, .int .i64 p.kind, .string (bs p.text), .int .i64 p.wrong] := Blk.new _ _ _
            go_wp2_with fail
            generalize (w8.alloc (.cells #[.int .i64 p.at_, .int .i64 p.kind, .string (bs p.text), .int .i64 p.wrong] 91)).drew = wa at *
            have hbW := hbW.drew
            have hpB := hpB.drew
            have h9 := h8.below hbW
            have ht9 := ht8.below hbW
            have hrow9 := own_below hrow8 hbW (Nat.le_refl _)
            have hspw9 := own_below hspw hbW (Nat.le_refl _)
            have hr9 := hr8.below hbW
            obtain ⟨A9, c9, rfl⟩ := own_form hspw9
            obtain ⟨q0, q1, q2, q3, qf⟩ := hpB.cells4
            obtain ⟨y0, y1, y2, y3, y4, y5, yf⟩ := hr9.blk.cells6
            clear h8 ht8 hrow8 hspw hr8 hS
            generalize hp0 : lookP ps l.length s.i = p0 at *
            have hw75 : IntKind.i64.wrap ((p.at_ : Int) + 1) = (p.at_ : Int) + 1 := IntWalk.i64_in _ (by omega)
            obtain ⟨j0, hinf2, hz3, hz4, hz5⟩ := info_parts infoSpan
            have h10 := h9.below (below1 _ (.cells #[.int .i64 p0.at_, .int .i64 ((p.at_ : Int) + 1)] 95))
            have ht10 := ht9.below (below1 _ (.cells #[.int .i64 p0.at_, .int .i64 ((p.at_ : Int) + 1)] 95))
            have hrow10 := own_below hrow9 (below1 _ (.cells #[.int .i64 p0.at_, .int .i64 ((p.at_ : Int) + 1)] 95)) (Nat.le_refl _)
            have hspw10 := own_below hspw9 (below1 _ (.cells #[.int .i64 p0.at_, .int .i64 ((p.at_ : Int) + 1)] 95)) (Nat.le_refl _)
            have hr10 := hr9.below (below1 _ (.cells #[.int .i64 p0.at_, .int .i64 ((p.at_ : Int) + 1)] 95))
            have hr10b : Blk (wa.alloc (.cells #[.int .i64 p0.at_, .int .i64 ((p.at_ : Int) + 1)] 95)) R 138 _ := hr10.blk
            obtain ⟨x0, x1, x2, x3, x4, x5, xf⟩ := hr10b.cells6
            have hspl2 := hspl.out
            have hn02 := hn0.out
            have hpl2 : sp.length + 1 ≤ maxLen := by unfold maxLen; omega
            have hws := h10.kept.size
            clear hspl
            go_region_law (
              (refine step_append_one rfl _ _ 81 rfl n0 95 j0 _ 2 16 Tryz.underlying81 hinf2 hz3 hz4 hz5 rfl (by decide) (.slice A9 sp.length c9) sp.length (spansC sp) rfl hspw10 ⟨wa.drew.heap.size, 0, none⟩ 1 1 [.int .i64 p0.at_, .int .i64 ((p.at_ : Int) + 1)] rfl rfl (row_new _ _ _) (by simp [Value.oneCell']) hpl2 (by omega) (Nat.le_trans hn02 hws) ?_; intro v' w11 row hown' hgrow hrr; obtain ⟨g', cap', rfl⟩ := ownsRow_succ hown'; have hrr2 : ∀ g, row = some g → n0 ≤ g ∧ ∃ cur, Blk (wa.drew.alloc (.cells #[.int .i64 p0.at_, .int .i64 ((p.at_ : Int) + 1)] 95)) g 95 cur := (fun g e => by rcases hrr with h | ⟨g2, cap2, cur2, h2, hv2, _, hb2, _⟩; (rw [h] at e; cases e); (rw [h2] at e; injection e with e; subst e; exact ⟨(hspw10.lt g2 (by rw [hv2]; rfl)).1, cur2, hb2⟩)); have hr11 := hr10.grown hgrow (fun e => by obtain ⟨_, cur, hb⟩ := hrr2 R e; exact hb.ne_ hr10.blk (by decide) rfl) (fun g e => by obtain ⟨_, cur, hb⟩ := hrr2 g e; exact own_blk_ne hr10.list hb (by decide)); clear x0 x1 x2 x3 x4 x5 xf; obtain ⟨x0, x1, x2, x3, x4, x5, xf⟩ := hr11.blk.cells6))
            all_goals
              clear x0 x1 x2 x3 x4 x5 xf q0 q1 q2 q3 qf y0 y1 y2 y3 y4 y5 yf
              have hgS : w11.grownBy (w11.setCell ⟨R, 5, none⟩ (.slice (some ⟨g', 0, none⟩) (sp.length + 1) cap')) (some R) := grown_set ⟨rfl, rfl, rfl, Nat.le_refl _, fun _ _ _ => rfl⟩ 5 _
              have hres11 := h10.res.grown hgrow (fun e => by obtain ⟨_, cur, hb⟩ := hrr2 _ e.symm; exact hb.ne_ h10.res (by decide) rfl)
              have hg11 := h10.g.grown hgrow (fun e => by obtain ⟨_, cur, hb⟩ := hrr2 _ e.symm; exact hb.ne_ h10.g (by decide) rfl)
              have hrow11 := hrow10.kept hgrow (by
                cases hrw : row with
                | none => exact Classical.em _
                | some g => obtain ⟨_, cur, hb⟩ := hrr2 g hrw; exact .inr (own_blk_ne hrow10 hb (by decide)))
              have ht11 := ht10.rowed hgrow (fun g e => hF0.out g (hrr2 g e).1)
              have hk11 : Kept n0 R w w11 := (Kept.of h10.kept).trans (Kept.row hgrow hrr2)
              have a1 := hres11.grown hgS (fun e => hres11.ne_ hr11.blk (by decide) (by injection e))
              have a2 := hg11.grown hgS (fun e => hg11.ne_ hr11.blk (by decide) (by injection e))
              have a3 : RdAt (w11.setCell ⟨R, 5, none⟩ (.slice (some ⟨g', 0, none⟩) (sp.length + 1) cap')) R l ps s6 _ (.slice (some ⟨g', 0, none⟩) (sp.length + 1) cap') _ := ⟨hr11.blk.set_ 5 _, hr11.list.kept hgS (.inr (own_blk_ne hr11.list hr11.blk (by decide)))⟩
              have a4 := hown'.kept hgS (.inr (own_blk_ne hown' hr11.blk (by decide)))
              have a5 := hrow11.kept hgS (.inr (own_blk_ne hrow11 hr11.blk (by decide)))
              have a6 := hk11.trans (Kept.of hgS)
              have a7 : Tabs (w11.setCell ⟨R, 5, none⟩ (.slice (some ⟨g', 0, none⟩) (sp.length + 1) cap')) := ht11.set hR
              have Ha := Lib.hid (And.intro a1 (And.intro a2 (And.intro a3 (And.intro a4 (And.intro a5 (And.intro a6 a7))))))
              clear a1 a2 a3 a4 a5 a6 a7 hgS hres11 hg11 hrow11 ht11 hk11 hrr2 hrr
              go_wp2_with fail
              go_meet
              obtain ⟨a1, a2, a3, a4, a5, a6, a7⟩ := Ha.out
              refine ⟨_, _, a1, a2, a3, ⟨sp ++ [(p0.at_, p.at_ + 1)], ?_, ?_⟩, a5, a6, a7⟩
              · rw [Hif.out]
              · have e1 : spansC (sp ++ [(p0.at_, p.at_ + 1)]) = spansC sp ++ [.int .i64 p0.at_, .int .i64 ((p.at_ : Int) + 1)] := by rw [spansC_snoc]; rfl
                have e2 : (sp ++ [(p0.at_, p.at_ + 1)]).length = sp.length + 1 := by simp
                rw [e1, e2]
                exact a4
          · have Hif : Hid ((if 0 ≤ s6.wrong then sp else sp ++ [((lookP ps l.length s.i).at_, (lookP ps l.length (s6.i - 1)).at_ + 1)]) = sp) := by show _ = _; rw [if_pos (by omega)]
            go_wp2_with fail
            go_meet
            rw [Hif.out]
            exact ⟨_, _, h8.res, h8.g, hr8, ⟨sp, rfl, hspw⟩, hrow8, Kept.of h8.kept, ht8⟩
        case rest =>
          clear h8 hrow8 ht8 hr8
          obtain ⟨nv9, sv9, hres, hg9, hr9, hsp9, hrow9, hk9, ht9⟩ := hcut
          have Hsp9 := Lib.hid hsp9
          clear hsp9
          obtain ⟨y0, y1, y2, y3, yf⟩ := hg9.cells4
          obtain ⟨z0, z1, z2, z3, zf⟩ := hres.cells4
          go_wp2_with fail
          have hgp := grown_put4 wc w.heap.size (.int .i64 k) (.slice A zs.length cc) (.int .i64 b) (.int .i64 f1)
          have hres2 := hres.put4 (a' := .int .i64 k) (b' := .slice A zs.length cc) (c' := .int .i64 b) (d' := .int .i64 f1)
          generalize (((wc.setCell ⟨w.heap.size, 0, none⟩ (.int .i64 k)).setCell ⟨w.heap.size, 1, none⟩ (.slice A zs.length cc)).setCell ⟨w.heap.size, 2, none⟩ (.int .i64 b)).setCell ⟨w.heap.size, 3, none⟩ (.int .i64 f1) = wz at *
          clear z0 z1 z2 z3 zf
          obtain ⟨z0, z1, z2, z3, zf⟩ := hres2.cells4
          have e0 := hres.ne_ hr9.blk (by decide)
          refine bodyPost_ret (v := .agg #[.int .i64 k, .slice A zs.length cc, .int .i64 b, .int .i64 f1]) ?_ rfl ⟨nv9, sv9, .slice A zs.length cc, by rw [Hg.out], ?_, ?_, ?_, hk9.far hgp (Nat.le_refl _), ht9.rowed hgp (fun g e => by injection e with e; subst e; exact hFar.out _ (Nat.le_refl _))⟩
          · simp [results, Tryz.results89, go_sem, z0, z1, z2, z3]
          · rw [Hg.out]; exact hrow9.kept hgp (.inr (own_blk_ne hrow9 hres (by decide)))
          · rw [Hg.out]; exact hr9.grown hgp (fun e => e0 (by injection e)) (fun g e => by injection e with e; subst e; exact own_blk_ne hr9.list hres (by decide))
          · obtain ⟨sp', hsp1, hsp2⟩ := Hsp9.out
            have hsp3 := hsp2.kept hgp (.inr (own_blk_ne hsp2 hres (by decide)))
            have hgs : (gateP ps l.length s).2 = s6 := by rw [Hg.out]
            have hsn : spansN ps l.length s sp = sp' := by unfold spansN spanP; rw [hgs]; exact hsp1.symm
            rw [hsn]
            exact hsp3
end Go.Proofs.YtonnegkpjmhomaaGreatDoor
end
section
namespace Go.Proofs.YtonnegkpjmhomaaGreatDoor
open Go.RowKit
def gateC (p : Gt × Value) : List Value := [.int .i64 p.1.kind, p.2, .int .i64 p.1.bit, .int .i64 p.1.ifn]
def gatesC (gw : List (Gt × Value)) : List Value := gw.flatMap gateC
theorem gatesC_snoc (gw : List (Gt × Value)) (p : Gt × Value) : gatesC (gw ++ [p]) = gatesC gw ++ gateC p := by simp [gatesC]
structure GsAt (w : World) (n0 : Nat) (gv : Value) (gw : List (Gt × Value)) : Prop where
  row : w.ownsRow n0 61 4 gv gw.length (gatesC gw)
  each : ∀ p ∈ gw, w.ownsRow n0 3 1 p.2 p.1.wires.length (p.1.wires.map (Value.int .i64))
theorem own_keep {w w' : World} {base size n : Nat} {e : TypeId} {v : Value} {xs : List Value} (h : w.ownsRow base e size v n xs) (hk : ∀ g cur, base ≤ g → Blk w g e cur → w'.heap[g]? = w.heap[g]?) : w'.ownsRow base e size v n xs := by
  refine ⟨h.1, ?_⟩
  rcases h.2 with ⟨h1, h2⟩ | ⟨g, cap, cur, h1, h2, h3, h4⟩
  · exact .inl ⟨h1, h2⟩
  · exact .inr ⟨g, cap, cur, h1, h2, (hk g cur h2 h3).trans h3, h4⟩
theorem GsAt.keep {w w' : World} {n0 : Nat} {gv : Value} {gw : List (Gt × Value)} (h : GsAt w n0 gv gw) (hk : ∀ g e cur, n0 ≤ g → (e = 61 ∨ e = 3) → Blk w g e cur → w'.heap[g]? = w.heap[g]?) : GsAt w' n0 gv gw :=
  ⟨own_keep h.row (fun g cur h1 h2 => hk g _ cur h1 (.inl rfl) h2), fun p hp => own_keep (h.each p hp) (fun g cur h1 h2 => hk g _ cur h1 (.inr rfl) h2)⟩
theorem GsAt.kept {w w' : World} {n0 n1 R : Nat} {gv : Value} {gw : List (Gt × Value)} {cs : Array Value} (h : GsAt w n0 gv gw) (hR : Blk w R 138 cs) (hk : Kept n1 R w w') : GsAt w' n0 gv gw :=
  h.keep (fun g e cur _ he hb => hk.block g hb.lt (hb.ne_ hR (by rcases he with rfl | rfl <;> decide)) (.inr fun cs hs => hb.ne_ hs (by rcases he with rfl | rfl <;> decide) rfl))
theorem GsAt.below {w w' : World} {n0 : Nat} {gv : Value} {gw : List (Gt × Value)} (h : GsAt w n0 gv gw) (hb : Below w.heap.size w w') : GsAt w' n0 gv gw :=
  h.keep (fun g _ _ _ _ h2 => hb.block g h2.lt)
theorem GsAt.far {w w' : World} {n0 b : Nat} {gv : Value} {gw : List (Gt × Value)} {t : TypeId} {cs : Array Value} (h : GsAt w n0 gv gw) (hB : Blk w b t cs) (h1 : t ≠ 61) (h2 : t ≠ 3) (hg : w.grownBy w' (some b)) : GsAt w' n0 gv gw :=
  h.keep (fun g e cur _ he hb => hg.block g hb.lt (fun e2 => by
    injection e2 with e2
    exact hb.ne_ hB (by rcases he with rfl | rfl; exact h1.symm; exact h2.symm) e2))
theorem gatesC_get {gw : List (Gt × Value)} {i : Nat} {p : Gt × Value} (h : gw[i]? = some p) : ∀ j, j < 4 → (gatesC gw)[i * 4 + j]? = (gateC p)[j]? := by
  induction gw generalizing i with
  | nil => cases h
  | cons q ps ih =>
    intro j hj
    have e : gatesC (q :: ps) = gateC q ++ gatesC ps := rfl
    have e4 : (gateC q).length = 4 := rfl
    rw [e]
    cases i with
    | zero =>
      have h : q = p := by simpa using h
      subst h
      rw [Nat.zero_mul, Nat.zero_add, List.getElem?_append_left (by rw [e4]; exact hj)]
    | succ i =>
      rw [List.getElem?_append_right (by rw [e4]; omega), e4, show (i + 1) * 4 + j - 4 = i * 4 + j by omega]
      exact ih (by simpa using h) j hj
theorem ints_of_own {w : World} {n0 : Nat} {v : Value} {zs : List Int} (h : w.ownsRow n0 3 1 v zs.length (zs.map (Value.int .i64))) : IntsAt w w.heap.size v zs := by
  rcases h.2 with ⟨rfl, h0⟩ | ⟨g, c, cur, rfl, _, hg, hnc, hcm, hcs, htk⟩
  · exact ⟨none, 0, by rw [h0], by omega, by unfold maxLen; omega, fun hz => absurd (List.length_eq_zero_iff.1 h0) hz⟩
  · refine ⟨_, c, rfl, hnc, hcm, fun _ => ⟨g, 0, rfl, Blk.lt (t := 3) (cs := cur) hg, fun j hj => ?_⟩⟩
    have e : cur[0 + j]? = some (.int .i64 (zs.getD j 0)) := by
      have e2 : (cur.toList.take (zs.length * 1))[j]? = (zs.map (Value.int .i64))[j]? := by rw [htk]
      rw [List.getElem?_take, if_pos (by omega), List.getElem?_map, List.getElem?_eq_getElem hj] at e2
      rw [Nat.zero_add, List.getD_eq_getElem?_getD, List.getElem?_eq_getElem hj]
      simpa using e2
    exact (cell_of_row w g _ cur _ (0, 0) hg).trans e
theorem GsAt.gates {w : World} {n0 : Nat} {gv : Value} {gw : List (Gt × Value)} (h : GsAt w n0 gv gw) : GatesAt w w.heap.size gv (gw.map (·.1)) := by
  rcases h.row.2 with ⟨rfl, h0⟩ | ⟨g, c, cur, rfl, _, hg, hnc, hcm, hcs, htk⟩
  · have h0 : gw = [] := List.length_eq_zero_iff.1 h0
    subst h0
    exact ⟨none, 0, rfl, by simp, by unfold maxLen; omega, fun hz => absurd rfl hz⟩
  · refine ⟨_, c, by rw [List.length_map], by rw [List.length_map]; exact hnc, hcm, fun _ => ⟨g, 0, rfl, Blk.lt (t := 61) (cs := cur) hg, fun j x hj => ?_⟩⟩
    rw [List.getElem?_map] at hj
    cases hp : gw[j]? with
    | none => rw [hp] at hj; cases hj
    | some p =>
      rw [hp] at hj
      obtain rfl : p.1 = x := by simpa using hj
      have hjl : j < gw.length := by
        rcases Nat.lt_or_ge j gw.length with h | h
        · exact h
        · rw [List.getElem?_eq_none h] at hp; cases hp
      have hcell : ∀ i, i < 4 → w.cell? ⟨g, 0 + j * 4 + i, none⟩ = (gateC p)[i]? := fun i hi => by
        rw [cell_of_row w g _ cur _ (0, 0) hg, ← gatesC_get hp i hi, ← htk, List.getElem?_take, if_pos (by omega)]
        simp
      exact ⟨p.2, ints_of_own (h.each p (List.mem_of_getElem? hp)), hcell 0 (by decide), hcell 1 (by decide), hcell 2 (by decide), hcell 3 (by decide)⟩
theorem below_grown' {R : Nat} {w x y : World} (h : Below w.heap.size w x) (hg : x.grownBy y (some R)) (hR : w.heap.size ≤ R) : Below w.heap.size w y :=
  ⟨hg.os.trans h.os, hg.tape.trans h.tape, hg.output.trans h.output, Nat.le_trans h.size hg.size, fun j hj => (hg.block j (Nat.lt_of_lt_of_le hj h.size) (fun e => by injection e with e; omega)).trans (h.block j hj)⟩
theorem below_kept {R : Nat} {w x y : World} (h : Below w.heap.size w x) (hg : Kept w.heap.size R x y) (hR : w.heap.size ≤ R) : Below w.heap.size w y :=
  ⟨hg.os.trans h.os, hg.tape.trans h.tape, hg.output.trans h.output, Nat.le_trans h.size hg.size, fun j hj => (hg.block j (Nat.lt_of_lt_of_le hj h.size) (by omega) (.inl hj)).trans (h.block j hj)⟩
def bitsP (ps : List Part) (n : Nat) (s : St) : Int × St := if beginsP ps n [98, 105, 116, 115] s then numP ps n (takeP ps n (isT [98, 105, 116, 115]) s).2 else (0, s)
structure RSt (w wx : World) (R B : Nat) (l : List UInt8) (ps : List Part) (s : St) (sv lv a b gv : Value) (gw : List (Gt × Value)) (sp : List (Nat × Nat)) : Prop where
  rd : ∃ nv, RdAt wx R l ps s nv sv lv
  res : Blk wx w.heap.size 25 #[.int .i64 0, .int .i64 0, .slice none 0 0]
  c : Blk wx B 25 #[a, b, gv]
  sp : wx.ownsRow w.heap.size 95 2 sv sp.length (spansC sp)
  gs : GsAt wx w.heap.size gv gw
  kept : Below w.heap.size w wx
  tabs : Tabs wx
  hR : w.heap.size ≤ R
  hB : w.heap.size ≤ B
  hne : w.heap.size ≠ B
theorem RSt.below {w wx w' : World} {R B : Nat} {l : List UInt8} {ps : List Part} {s : St} {sv lv a b gv : Value} {gw : List (Gt × Value)} {sp : List (Nat × Nat)} (h : RSt w wx R B l ps s sv lv a b gv gw sp) (hb : Below wx.heap.size wx w') : RSt w w' R B l ps s sv lv a b gv gw sp := by
  obtain ⟨⟨nv, h1⟩, h2, h3, h4, h5, h6, h7, h8, h9, h10⟩ := h
  exact ⟨⟨nv, h1.below hb⟩, h2.below hb h2.lt, h3.below hb h3.lt, own_below h4 hb (Nat.le_refl _), h5.below hb, h6.trans (hb.mono h6.size), h7.below hb, h8, h9, h10⟩
theorem RSt.step {w wx w' : World} {R B : Nat} {l : List UInt8} {ps : List Part} {s s' : St} {nv' sv lv a b gv : Value} {gw : List (Gt × Value)} {sp : List (Nat × Nat)} (h : RSt w wx R B l ps s sv lv a b gv gw sp) (hF : Far R) (hr : RdAt w' R l ps s' nv' sv lv) (hg : wx.grownBy w' (some R)) : RSt w w' R B l ps s' sv lv a b gv gw sp := by
  obtain ⟨⟨nv, h1⟩, h2, h3, h4, h5, h6, h7, h8, h9, h10⟩ := h
  have e0 := h2.ne_ h1.blk (by decide)
  have e1 := h3.ne_ h1.blk (by decide)
  exact ⟨⟨nv', hr⟩, h2.grown hg (fun e => e0 (by injection e)), h3.grown hg (fun e => e1 (by injection e)), h4.kept hg (.inr (own_blk_ne h4 h1.blk (by decide))), h5.far h1.blk (by decide) (by decide) hg, below_grown' h6 hg h8, h7.grown hF hg, h8, h9, h10⟩
theorem RSt.put {w wx : World} {R B : Nat} {l : List UInt8} {ps : List Part} {s : St} {sv lv a b gv a' b' : Value} {gw : List (Gt × Value)} {sp : List (Nat × Nat)} (h : RSt w wx R B l ps s sv lv a b gv gw sp) (hF : Far B) (i : Nat) (v : Value) (he : #[a, b, gv].setIfInBounds i v = #[a', b', gv]) :
    RSt w (wx.setCell ⟨B, i, none⟩ v) R B l ps s sv lv a' b' gv gw sp := by
  obtain ⟨⟨nv, h1⟩, h2, h3, h4, h5, h6, h7, h8, h9, h10⟩ := h
  have hg : wx.grownBy (wx.setCell ⟨B, i, none⟩ v) (some B) := grown_set ⟨rfl, rfl, rfl, Nat.le_refl _, fun _ _ _ => rfl⟩ i v
  have e1 := h1.blk.ne_ h3 (by decide)
  exact ⟨⟨nv, h1.grown hg (fun e => e1 (by injection e with e; exact e.symm)) (fun g e => by injection e with e; subst e; exact own_blk_ne h1.list h3 (by decide))⟩, h2.far h10 _, by rw [← he]; exact h3.set_ i v, h4.kept hg (.inr (own_blk_ne h4 h3 (by decide))), h5.far h3 (by decide) (by decide) hg, below_grown' h6 hg h9, h7.set hF, h8, h9, h10⟩
theorem RSt.gate {w wx w' : World} {R B : Nat} {l : List UInt8} {ps : List Part} {s s' : St} {nv' sv sv' lv a b gv : Value} {gw : List (Gt × Value)} {sp sp' : List (Nat × Nat)} (h : RSt w wx R B l ps s sv lv a b gv gw sp) (hr : RdAt w' R l ps s' nv' sv' lv)
    (hs : w'.ownsRow w.heap.size 95 2 sv' sp'.length (spansC sp')) (hk : Kept w.heap.size R wx w') (ht : Tabs w') : RSt w w' R B l ps s' sv' lv a b gv gw sp' := by
  obtain ⟨⟨nv, h1⟩, h2, h3, h4, h5, h6, h7, h8, h9, h10⟩ := h
  have e0 := h2.ne_ h1.blk (by decide)
  have e1 := h3.ne_ h1.blk (by decide)
  exact ⟨⟨nv', hr⟩, (hk.block _ h2.lt e0 (.inr fun cs hc => h2.ne_ hc (by decide) rfl)).trans h2, (hk.block _ h3.lt e1 (.inr fun cs hc => h3.ne_ hc (by decide) rfl)).trans h3, hs, h5.kept h1.blk hk, below_kept h6 hk h8, ht, h8, h9, h10⟩
section
variable {ps : List Part} {n : Nat}
theorem takeP_mono {nd : Part → Bool} {s : St} : s.i ≤ (takeP ps n nd s).2.i := by
  unfold takeP
  split
  · exact Nat.le_refl _
  · split
    · exact Nat.le_refl _
    · split
      · exact Nat.le_refl _
      · exact Nat.le_succ _
theorem numP_mono {s : St} : s.i ≤ (numP ps n s).2.i := takeP_mono
theorem numP_i {s : St} (h : s.i ≤ ps.length) : (numP ps n s).2.i ≤ ps.length := takeP_i h
theorem ifP_mono {s : St} : s.i ≤ (ifP ps n s).2.i := by
  unfold ifP
  split
  · exact Nat.le_trans takeP_mono (Nat.le_trans numP_mono takeP_mono)
  · exact Nat.le_refl _
theorem ifP_i {s : St} (h : s.i ≤ ps.length) : (ifP ps n s).2.i ≤ ps.length := by
  unfold ifP
  split
  · exact takeP_i (numP_i (takeP_i h))
  · exact h
theorem kindP_mono {s : St} : s.i ≤ (kindP ps n s).2.i := takeP_mono
theorem kindP_i {s : St} (h : s.i ≤ ps.length) : (kindP ps n s).2.i ≤ ps.length := takeP_i h
theorem wiresP_mono : ∀ {k : Nat} {s : St}, s.i ≤ (wiresP ps n k s).2.i
  | 0, _ => Nat.le_refl _
  | _ + 1, _ => Nat.le_trans numP_mono wiresP_mono
theorem wiresP_i : ∀ {k : Nat} {s : St}, s.i ≤ ps.length → (wiresP ps n k s).2.i ≤ ps.length
  | 0, _, h => h
  | k + 1, s, h => wiresP_i (k := k) (s := (numP ps n s).2) (numP_i h)
theorem bitP_mono {k : Int} {s : St} : s.i ≤ (bitP ps n k s).2.i := by
  unfold bitP
  split
  · exact numP_mono
  · exact Nat.le_refl _
theorem bitP_i {k : Int} {s : St} (h : s.i ≤ ps.length) : (bitP ps n k s).2.i ≤ ps.length := by
  unfold bitP
  split
  · exact numP_i h
  · exact h
theorem gateP_i {s : St} (h : s.i ≤ ps.length) : (gateP ps n s).2.i ≤ ps.length := takeP_i (bitP_i (wiresP_i (kindP_i (ifP_i h))))
theorem gateP_more {s : St} (h : (gateP ps n s).2.wrong < 0) : s.i < (gateP ps n s).2.i := by
  have h1 := (takeP_ok h).1
  have h2 : s.i ≤ (bitP ps n (kindP ps n (ifP ps n s).2).1 (wiresP ps n (arity (kindP ps n (ifP ps n s).2).1).toNat (kindP ps n (ifP ps n s).2).2).2).2.i :=
    Nat.le_trans ifP_mono (Nat.le_trans kindP_mono (Nat.le_trans wiresP_mono bitP_mono))
  show s.i < (takeP ps n (isT [59]) _).2.i
  rw [h1]
  exact Nat.lt_succ_of_le h2
theorem gatesP_end {f : Nat} {s : St} (h : 0 ≤ s.wrong ∨ s.i = ps.length) : gatesP ps n f s = ([], [], s) := by
  cases f with
  | zero => rfl
  | succ f => rw [gatesP, if_pos h]
theorem gatesP_step {f : Nat} {s : St} (h1 : s.wrong < 0) (h2 : s.i ≠ ps.length) : gatesP ps n (f + 1) s =
    ((gateP ps n s).1 :: (gatesP ps n f (gateP ps n s).2).1, (if 0 ≤ (gateP ps n s).2.wrong then (gatesP ps n f (gateP ps n s).2).2.1 else spanP ps n s :: (gatesP ps n f (gateP ps n s).2).2.1), (gatesP ps n f (gateP ps n s).2).2.2) := by
  rw [gatesP, if_neg (by rintro (h | h); omega; exact h2 h)]
end
theorem bitsP_i {ps : List Part} {n : Nat} {s : St} (h : s.i ≤ ps.length) : (bitsP ps n s).2.i ≤ ps.length := by
  unfold bitsP
  split
  · exact numP_i (takeP_i h)
  · exact h
theorem Blk.at3 {w : World} {g : Nat} {t : TypeId} {a b c d e f : Value} (h : Blk w g t #[a, b, c, d, e, f]) : w.cell? ⟨g, 3, none⟩ = some d := h.cell 3
theorem infoGate : (Tryz.prog.info? 61).map (fun i => (i.zero, i.size, i.bytes)) = some (some (.agg #[.int .i64 0, .slice none 0 0, .int .i64 0, .int .i64 0]), 4, 48) := by kernel_rfl
theorem RSt.app {w wx w7 : World} {R B : Nat} {l : List UInt8} {ps : List Part} {s : St} {sv lv a b gv v' : Value} {gw : List (Gt × Value)} {sp : List (Nat × Nat)} {row : Option Nat} {p : Gt × Value}
    (h : RSt w wx R B l ps s sv lv a b gv gw sp) (hFar : ∀ g, w.heap.size ≤ g → Far g) (hp : wx.ownsRow w.heap.size 3 1 p.2 p.1.wires.length (p.1.wires.map (Value.int .i64)))
    (hown : w7.ownsRow w.heap.size 61 4 v' (gw.length + 1) (gatesC gw ++ gateC p)) (hg : wx.grownBy w7 row) (hrr : ∀ g, row = some g → w.heap.size ≤ g ∧ ∃ cur, Blk wx g 61 cur) :
    RSt w (w7.setCell ⟨B, 2, none⟩ v') R B l ps s sv lv a b v' (gw ++ [p]) sp := by
  obtain ⟨⟨nv, h1⟩, h2, h3, h4, h5, h6, h7, h8, h9, h10⟩ := h
  have ne_ : ∀ {g : Nat} {t : TypeId} {cs : Array Value}, Blk wx g t cs → t ≠ 61 → row ≠ some g := fun hb ht e => by
    obtain ⟨_, cur, hc⟩ := hrr _ e
    exact hc.ne_ hb (Ne.symm ht) rfl
  have own_ : ∀ {base : Nat} {t : TypeId} {size n : Nat} {v : Value} {xs : List Value}, wx.ownsRow base t size v n xs → t ≠ 61 → w7.ownsRow base t size v n xs := fun ho ht => ho.kept hg (by
    cases hrw : row with
    | none => exact Classical.em _
    | some g => obtain ⟨_, cur, hb⟩ := hrr g hrw; exact .inr (own_blk_ne ho hb ht))
  have hs : w7.grownBy (w7.setCell ⟨B, 2, none⟩ v') (some B) := grown_set ⟨rfl, rfl, rfl, Nat.le_refl _, fun _ _ _ => rfl⟩ 2 v'
  have k1 : RdAt w7 R l ps s nv sv lv := h1.grown hg (ne_ h1.blk (by decide)) (fun g e => by obtain ⟨_, cur, hb⟩ := hrr g e; exact own_blk_ne h1.list hb (by decide))
  have k2 := h2.grown hg (fun e => ne_ h2 (by decide) e.symm)
  have k3 := h3.grown hg (fun e => ne_ h3 (by decide) e.symm)
  have k4 := own_ h4 (by decide)
  have k7 : Tabs w7 := h7.rowed hg (fun g e => hFar g (hrr g e).1)
  have e1 := k1.blk.ne_ k3 (by decide)
  refine ⟨⟨nv, k1.grown hs (fun e => e1 (by injection e with e; exact e.symm)) (fun g e => by injection e with e; subst e; exact own_blk_ne k1.list k3 (by decide))⟩, k2.far h10 _, k3.set_ 2 v', k4.kept hs (.inr (own_blk_ne k4 k3 (by decide))), ⟨?_, ?_⟩, ?_, k7.set (hFar B h9), h8, h9, h10⟩
  · rw [gatesC_snoc, List.length_append]
    exact hown.kept hs (.inr (own_blk_ne hown k3 (by decide)))
  · intro q hq
    have hq2 : wx.ownsRow w.heap.size 3 1 q.2 q.1.wires.length (q.1.wires.map (Value.int .i64)) := by
      rcases List.mem_append.1 hq with hq | hq
      · exact h5.each q hq
      · rw [List.mem_singleton.1 hq]; exact hp
    have hq3 := own_ hq2 (by decide)
    exact hq3.kept hs (.inr (own_blk_ne hq3 k3 (by decide)))
  · have b7 : Below w.heap.size w w7 := ⟨hg.os.trans h6.os, hg.tape.trans h6.tape, hg.output.trans h6.output, Nat.le_trans h6.size hg.size, fun j hj => (hg.block j (Nat.lt_of_lt_of_le hj h6.size) (fun e => by have := (hrr j e.symm).1; omega)).trans (h6.block j hj)⟩
    exact b7.setCell h9 _
def rdEnd (n : Nat) (m b : Int) (G : List Gt) (sp : List (Nat × Nat)) (sE : St) : Ct × List (Nat × Nat) × Int × Int :=
  if 0 ≤ sE.wrong then (Ct.zero, [], sE.wrong, 4) else if chkC ⟨m, b, G⟩ ≠ 0 then (Ct.zero, [], n, chkC ⟨m, b, G⟩) else (⟨m, b, G⟩, sp, 0, 0)
def RdPost (r : Ct × List (Nat × Nat) × Int × Int) (w : World) (e : Ending) (w' : World) : Prop :=
  ∃ gv sv gw, e = .returned (.tuple #[.agg #[.int .i64 r.1.wires, .int .i64 r.1.bits, gv], sv, .int .i64 r.2.2.1, .int .i64 r.2.2.2]) ∧ gw.map (·.1) = r.1.gates ∧
    GsAt w' w.heap.size gv gw ∧ w'.ownsRow w.heap.size 95 2 sv r.2.1.length (spansC r.2.1) ∧ Below w.heap.size w w'
theorem rd_none {w w' : World} (at_ er : Int) (hb : Below w.heap.size w w') : RdPost (Ct.zero, [], at_, er) w (.returned (.tuple #[.agg #[.int .i64 0, .int .i64 0, .slice none 0 0], .slice none 0 0, .int .i64 at_, .int .i64 er])) w' :=
  ⟨.slice none 0 0, .slice none 0 0, [], rfl, rfl, ⟨World.ownsRow_nil _ _ _ _, fun p hp => by cases hp⟩, World.ownsRow_nil _ _ _ _, hb⟩
theorem rd_five {w : World} {R B : Nat} {a b c d nv sv x y z : Value} (h : Blk w R 138 #[a, b, c, d, nv, sv]) (h' : Blk w B 25 #[x, y, z]) :
    w.cell? ⟨B, 0, none⟩ = some x ∧ w.cell? ⟨B, 1, none⟩ = some y ∧ w.cell? ⟨B, 2, none⟩ = some z ∧ w.cell? ⟨R, 4, none⟩ = some nv ∧ w.cell? ⟨R, 5, none⟩ = some sv := ⟨h'.cell 0, h'.cell 1, h'.cell 2, h.cell 4, h.cell 5⟩
theorem grown_put3 (w : World) (b : Nat) (v0 v1 v2 : Value) : w.grownBy (((w.setCell ⟨b, 0, none⟩ v0).setCell ⟨b, 1, none⟩ v1).setCell ⟨b, 2, none⟩ v2) (some b) :=
  grown_set (grown_set (grown_set ⟨rfl, rfl, rfl, Nat.le_refl _, fun _ _ _ => rfl⟩ 0 v0) 1 v1) 2 v2
theorem grown_put3d (w : World) (b : Nat) (v0 v1 v2 : Value) : w.grownBy (((w.setCell ⟨b, 0, none⟩ v0).setCell ⟨b, 1, none⟩ v1).setCell ⟨b, 2, none⟩ v2).drew (some b) :=
  grown_via (grown_put3 w b v0 v1 v2) ((Below.refl _ _).drew)
theorem below_put3 {B b : Nat} {w wc : World} (h : Below B w wc) (hb : B ≤ b) (v0 v1 v2 : Value) :
    Below B w (((wc.setCell ⟨b, 0, none⟩ v0).setCell ⟨b, 1, none⟩ v1).setCell ⟨b, 2, none⟩ v2) := ((h.setCell hb _).setCell hb _).setCell hb _
theorem gatesP_wires {ps : List Part} {n : Nat} : ∀ {f : Nat} {s : St} {g : Gt}, g ∈ (gatesP ps n f s).1 → g.wires.length ≤ 3
  | 0, _, _, h => by cases h
  | f + 1, s, g, h => by
    rw [gatesP] at h
    split at h
    · cases h
    · simp only [List.mem_cons] at h
      rcases h with rfl | h
      · have hl : ∀ (k : Nat) (s : St), (wiresP ps n k s).1.length = k := by
          intro k
          induction k with
          | zero => intro s; rfl
          | succ k ih => intro s; simp only [wiresP, List.length_cons, ih]
        show (wiresP ps n _ _).1.length ≤ 3
        rw [hl]
        have : ∀ k, arity k ≤ 3 := fun k => by unfold arity; repeat' split
                                               all_goals omega
        have := this (kindP ps n (ifP ps n s).2).1
        omega
      · exact gatesP_wires h
theorem fuel_step {ps : List Part} {n g : Nat} {sj : St} {G pre : List Gt} {sp presp : List (Nat × Nat)} {sE : St} (h1 : sj.wrong < 0) (h2 : sj.i ≠ ps.length)
    (H : (G, sp, sE) = (pre ++ (gatesP ps n (g + 1) sj).1, presp ++ (gatesP ps n (g + 1) sj).2.1, (gatesP ps n (g + 1) sj).2.2)) :
    (G, sp, sE) = ((pre ++ [(gateP ps n sj).1]) ++ (gatesP ps n g (gateP ps n sj).2).1, spansN ps n sj presp ++ (gatesP ps n g (gateP ps n sj).2).2.1, (gatesP ps n g (gateP ps n sj).2).2.2) := by
  rw [H, gatesP_step h1 h2]
  by_cases hw : 0 ≤ (gateP ps n sj).2.wrong
  · have he := gatesP_end (ps := ps) (n := n) (f := g) (s := (gateP ps n sj).2) (.inl hw)
    rw [he, if_pos hw, spansN, if_pos hw]; simp
  · rw [if_neg hw, spansN, if_neg hw]; simp
set_option maxRecDepth 100000 in
set_option maxHeartbeats 16000000 in
theorem read_walk (l : List UInt8) (hl : l.length ≤ 65536) (ps : List Part) (hps : Hid (partsP l = ps)) (u1 u4 : List UInt8) (s1 s2 s3 s4 sE : St) (m b : Int) (G : List Gt) (sp : List (Nat × Nat))
    (H1 : Hid (takeP ps l.length (isT [119, 105, 114, 101, 115]) ⟨0, -1⟩ = (u1, s1))) (H2 : Hid (numP ps l.length s1 = (m, s2))) (H3 : Hid (bitsP ps l.length s2 = (b, s3))) (H4 : Hid (takeP ps l.length (isT [59]) s3 = (u4, s4)))
    (H5 : Hid (gatesP ps l.length (ps.length + 1) s4 = (G, sp, sE))) (w : World) (ht : Tabs w) :
    Calls Tryz.prog 45 #[.string (bs l)] w (RdPost (rdEnd l.length m b G sp sE) w) := by
  have hsz : (bs l).size = l.length := bs_size l
  have hpl : ps.length ≤ 65536 := by rw [← hps.out]; exact Nat.le_trans (partsN_len _ _ _) hl
  have hpl6 : ps.length ≤ 1000000 := Nat.le_trans hpl (by decide)
  have Ho : Hid (OkP ps) := by show OkP ps; rw [← hps.out]; exact okP_parts _ _ _
  have Hlen : Hid (∀ p ∈ ps, p.text.length ≤ 1000000) := by show ∀ p ∈ ps, p.text.length ≤ 1000000; rw [← hps.out]; exact fun p hp => by have := (partsN_bd _ _ _ p hp).2; omega
  have Hpat : Hid (∀ p ∈ ps, p.at_ ≤ 1000000) := by show ∀ p ∈ ps, p.at_ ≤ 1000000; rw [← hps.out]; exact fun p hp => by have := (partsN_bd _ _ _ p hp).1; omega
  have hi1 : s1.i ≤ ps.length := by have := takeP_i (ps := ps) (n := l.length) (nd := isT [119, 105, 114, 101, 115]) (s := ⟨0, -1⟩) (Nat.zero_le _); rw [H1.out] at this; exact this
  have hi2 : s2.i ≤ ps.length := by have := numP_i (n := l.length) hi1; rw [H2.out] at this; exact this
  have hi3 : s3.i ≤ ps.length := by have := bitsP_i (n := l.length) hi2; rw [H3.out] at this; exact this
  have hi4 : s4.i ≤ ps.length := by have := takeP_i (n := l.length) (nd := isT [59]) hi3; rw [H4.out] at this; exact this
  have HC := Lib.hid (collect_calls l (by omega))
  rw [hps.out] at HC
  have HFar := Lib.hid (fun g (hg : w.heap.size ≤ g) => ht.far hg)
  have Ht := Lib.hid ht
  clear ht
  go_enter Tryz.func45, Tryz.ntmps45
  go_wp2_with fail
  go_step3
  go_wp2_with fail
  refine (parts_calls l _).mono ?_
  rintro e w1 ⟨rfl, rfl⟩
  go_wp2_with fail
  refine (HC.out _ _ (Blk.at_ (w.alloc (.cells #[.int .i64 0, .int .i64 0, .slice none 0 0] 25)) 9 #[.string (bs l)] (by simp))).mono ?_
  rintro e w2 ⟨v, rfl, hrow, hb2⟩
  obtain ⟨A0, c0, rfl⟩ := own_form hrow
  generalize hW : (w.alloc (.cells #[.int .i64 0, .int .i64 0, .slice none 0 0] 25)).alloc (.cells #[.string (bs l)] 9) = wa at *
  have h0 : RSt w ((w2.alloc (.cells #[.string (bs l), .slice A0 ps.length c0, .int .i64 0, .int .i64 (-1), .nilFunc, .slice none 0 0] 138)).alloc (.cells #[.int .i64 0, .int .i64 0, .slice none 0 0] 25)) w2.heap.size (w2.heap.size + 1) l ps ⟨0, -1⟩ (.slice none 0 0) (.slice A0 ps.length c0) (.int .i64 0) (.int .i64 0) (.slice none 0 0) [] [] := by
    have hza : wa.heap.size = w.heap.size + 2 := by rw [← hW]; simp
    have hz2 := hb2.size
    have hbw : Below w.heap.size w wa := by rw [← hW]; exact below2 _ _ _
    have hbx := below2 w2 (.cells #[.string (bs l), .slice A0 ps.length c0, .int .i64 0, .int .i64 (-1), .nilFunc, .slice none 0 0] 138) (.cells #[.int .i64 0, .int .i64 0, .slice none 0 0] 25)
    have hba : Below w.heap.size w w2 := bt hb2 hbw (by omega)
    have hk : Below w.heap.size w _ := bt hbx hba hba.size
    have hres : Blk wa w.heap.size 25 #[.int .i64 0, .int .i64 0, .slice none 0 0] := by rw [← hW]; exact (Blk.new w _ _).alloc _
    exact ⟨⟨.nilFunc, (Blk.new w2 _ _).alloc _, own_base (own_below hrow hbx (Nat.le_refl _)) (Nat.zero_le _)⟩, (hres.below hb2 hres.lt).below hbx (hres.below hb2 hres.lt).lt, Blk.at_ _ _ _ (by simp), World.ownsRow_nil _ _ _ _, ⟨World.ownsRow_nil _ _ _ _, fun p hp => by cases hp⟩, hk, Ht.out.below hk, by omega, by omega, by omega⟩
  clear hW hb2 hrow HC Ht
  go_upto_region 5 with fail
  generalize (w2.alloc (.cells #[.string (bs l), .slice A0 ps.length c0, .int .i64 0, .int .i64 (-1), .nilFunc, .slice none 0 0] 138)).alloc (.cells #[.int .i64 0, .int .i64 0, .slice none 0 0] 25) = wb at *
  have hF := HFar.out _ h0.hR
  have hF2 := HFar.out _ h0.hB
  have hRB : w2.heap.size + 1 ≠ w2.heap.size := by omega
  generalize w2.heap.size + 1 = B at *
  generalize w2.heap.size = R at *
  have HT1 := Lib.hid (fun Bc nv sv lv W h hc => take_is [119, 105, 114, 101, 115] Bc R l ps ⟨0, -1⟩ nv sv lv hpl6 W h hc (Nat.zero_le _))
  rw [H1.out] at HT1
  have HN := Lib.hid (fun nv sv lv W h ht => number_calls R hF l ps s1 nv sv lv hpl6 Ho.out W h hi1 ht)
  rw [H2.out] at HN
  clear H1 H2
  go_wp2_with fail
  refine (is_calls [119, 105, 114, 101, 115] _).mono ?_
  rintro e w3 ⟨rfl, rfl⟩
  have h1 := h0.below (below1 _ (.cells #[.string (bs [119, 105, 114, 101, 115])] 9))
  obtain ⟨nv1, hr1⟩ := h1.rd
  go_wp2_with fail
  refine (HT1.out wb.heap.size nv1 _ _ _ hr1 (Blk.new _ _ _)).mono ?_
  rintro e w4 ⟨rfl, hr4, hg4⟩
  have h4 := h1.step hF hr4 hg4
  clear HT1 hr1 h0 h1
  go_wp2_with fail
  refine (HN.out _ _ _ _ hr4 h4.tabs).mono ?_
  rintro e w5 ⟨rfl, hr5, hg5⟩
  have h5 := h4.step hF hr5 hg5
  have h6 := h5.put hF2 0 (.int .i64 m) rfl
  have y0 := h5.c.cell 0
  have yf := h5.c.frozen
  simp at y0
  clear HN hr4 hg4 h4 hr5 hg5
  obtain ⟨nv6, hr6⟩ := h6.rd
  go_wp2_with fail
  refine (begins_calls R l ps s2 _ _ _ [98, 105, 116, 115] _ hr6).mono ?_
  rintro e w7 ⟨rfl, hb7⟩
  have h7 := h6.below hb7
  clear y0 yf hr6 hb7 h5 h6
  go_upto_if 27 with fail
  go_cut [] (fun wx => RSt w wx R B l ps s3 (.slice none 0 0) (.slice A0 ps.length c0) (.int .i64 m) (.int .i64 b) (.slice none 0 0) [] [])
  case first =>
    cases hbg : beginsP ps l.length [98, 105, 116, 115] s2
    · have H3' := H3.out
      unfold bitsP at H3'
      rw [if_neg (by rw [hbg]; decide)] at H3'
      injection H3' with eb es
      subst eb es
      go_wp2_with fail
      go_meet
      exact h7
    · obtain ⟨ua, sa, Ha⟩ : ∃ ua sa, Hid (takeP ps l.length (isT [98, 105, 116, 115]) s2 = (ua, sa)) := ⟨_, _, rfl⟩
      have Hn : Hid (numP ps l.length sa = (b, s3)) := by
        have H3' := H3.out
        unfold bitsP at H3'
        rw [if_pos hbg, Ha.out] at H3'
        exact H3'
      have hia : sa.i ≤ ps.length := by have := takeP_i (n := l.length) (nd := isT [98, 105, 116, 115]) hi2; rw [Ha.out] at this; exact this
      have HT := Lib.hid (fun Bc nv sv lv W h hc => take_is [98, 105, 116, 115] Bc R l ps s2 nv sv lv hpl6 W h hc hi2)
      rw [Ha.out] at HT
      have HN := Lib.hid (fun nv sv lv W h ht => number_calls R hF l ps sa nv sv lv hpl6 Ho.out W h hia ht)
      rw [Hn.out] at HN
      clear hbg H3 Ha Hn
      go_wp2_with fail
      refine (is_calls [98, 105, 116, 115] _).mono ?_
      rintro e w8 ⟨rfl, rfl⟩
      have h8 := h7.below (below1 _ (.cells #[.string (bs [98, 105, 116, 115])] 9))
      obtain ⟨nv8, hr8⟩ := h8.rd
      go_wp2_with fail
      refine (HT.out w7.heap.size nv8 _ _ _ hr8 (Blk.new _ _ _)).mono ?_
      rintro e w9 ⟨rfl, hr9, hg9⟩
      have h9 := h8.step hF hr9 hg9
      clear HT hr8 h8 h7
      go_wp2_with fail
      refine (HN.out _ _ _ _ hr9 h9.tabs).mono ?_
      rintro e w10 ⟨rfl, hr10, hg10⟩
      have h10 := h9.step hF hr10 hg10
      have h11 := h10.put hF2 1 (.int .i64 b) rfl
      have y1 := h10.c.cell 1
      have yf := h10.c.frozen
      simp at y1
      clear HN hr9 hg9 h9 hr10 hg10
      go_wp2_with fail
      go_meet
      exact h11
  case rest =>
    clear h7 H3
    have h7 := hcut
    clear hcut
    have HT := Lib.hid (fun Bc nv sv lv W h hc => take_is [59] Bc R l ps s3 nv sv lv hpl6 W h hc hi3)
    rw [H4.out] at HT
    clear H4
    go_wp2_with fail
    refine (is_calls [59] _).mono ?_
    rintro e w8 ⟨rfl, rfl⟩
    have h8 := h7.below (below1 _ (.cells #[.string (bs [59])] 9))
    obtain ⟨nv8, hr8⟩ := h8.rd
    go_wp2_with fail
    refine (HT.out _ nv8 _ _ _ hr8 (Blk.new _ _ _)).mono ?_
    rintro e w9 ⟨rfl, hr9, hg9⟩
    have h9 := h8.step hF hr9 hg9
    clear HT hr8 h8 h7 hr9 hg9
    go_wp2_with fail
    go_step3
    go_upto_block 0 with fail
    go_cut [] from 37 to 59 (fun wx => ∃ sv gv gw, RSt w wx R B l ps sE sv (.slice A0 ps.length c0) (.int .i64 m) (.int .i64 b) gv gw sp ∧ gw.map (·.1) = G)
    case first =>
      go_wp2_with fail
      go_loopg [] (ps.length + 1) (fun gk wr => ∃ (pre : List Gt) (presp : List (Nat × Nat)) (sj : St) (sv gv : Value) (gw : List (Gt × Value)), (G, sp, sE) = (pre ++ (gatesP ps l.length gk sj).1, presp ++ (gatesP ps l.length gk sj).2.1, (gatesP ps l.length gk sj).2.2) ∧
        RSt w wr R B l ps sj sv (.slice A0 ps.length c0) (.int .i64 m) (.int .i64 b) gv gw presp ∧ gw.map (·.1) = pre ∧ sj.i ≤ ps.length ∧ (sj.wrong < 0 → ps.length + 1 ≤ sj.i + gk) ∧ presp.length + gk ≤ ps.length + 1 ∧ pre.length + gk ≤ ps.length + 1)
      case atStart => exact ⟨[], [], s4, _, _, [], by rw [H5.out]; rfl, h9, rfl, hi4, by omega, by simp, by simp⟩
      case round =>
        clear h9 H5
        obtain ⟨pre, presp, sj, sv, gv, gw, hG, h, hgw, hij, hfu, hn1, hn2⟩ := hrel
        have HG := Lib.hid hG
        have Hgw := Lib.hid hgw
        clear hG hgw
        obtain ⟨nv, hr⟩ := h.rd
        obtain ⟨b0, b1, b2, b3, b4, b5, bf⟩ := hr.blk.cells6
        by_cases hw : sj.wrong < 0
        · have hfu := hfu hw
          by_cases hi : sj.i = ps.length
          · have HE : Hid ((G, sp, sE) = (pre, presp, sj)) := by show _ = _; rw [HG.out, gatesP_end (.inr hi)]; simp
            rw [hi] at b2
            clear hi HG
            go_wp2_with fail
            go_quiet (fail)
            go_wp2_with fail
            go_meet
            have HE2 := HE.out
            injection HE2 with e1 e2
            injection e2 with e2 e3
            subst e1 e2 e3
            exact ⟨_, _, gw, h.below (belowN (Below.refl _ _) _), Hgw.out⟩
          · have hne : ((sj.i : Int) == (ps.length : Int)) = false := by rw [beq_eq_false_iff_ne]; omega
            obtain ⟨g, HG0⟩ : ∃ g, gk = g + 1 := ⟨gk - 1, by omega⟩
            subst HG0
            have HG2 := Lib.hid (fuel_step hw hi HG.out)
            have hik : (gateP ps l.length sj).2.i ≤ ps.length := gateP_i hij
            have hfk : (gateP ps l.length sj).2.wrong < 0 → ps.length + 1 ≤ (gateP ps l.length sj).2.i + g := fun h => by have := gateP_more h; omega
            have hnk : (spansN ps l.length sj presp).length + g ≤ ps.length + 1 := by
              unfold spansN
              split
              · omega
              · simp; omega
            have hpl9 : presp.length ≤ 1000000 := by omega
            have HGt := Lib.hid (fun nv sv lv W (h : RdAt W R l ps sj nv sv lv) (ht : Tabs W) (hn : w.heap.size ≤ W.heap.size) (hs : W.ownsRow w.heap.size 95 2 sv presp.length (spansC presp)) => gate_rd R hF l ps sj nv sv lv hpl6 Ho.out Hlen.out W h hij ht w.heap.size hn HFar.out presp hpl9 hs Hpat.out (Nat.le_trans hl (by decide)))
            obtain ⟨g1, sk, Hg1⟩ : ∃ g1 sk, Hid (gateP ps l.length sj = (g1, sk)) := ⟨_, _, rfl⟩
            rw [Hg1.out] at HGt HG2 hik hfk
            dsimp only at HGt HG2 hik hfk
            obtain ⟨sp1, Hsp1⟩ : ∃ x, Hid (spansN ps l.length sj presp = x) := ⟨_, rfl⟩
            rw [Hsp1.out] at HGt HG2 hnk
            have Hfk := Lib.hid hfk
            clear hfk Hg1 Hsp1 hi hfu HG
            go_wp2_with fail
            go_quiet (fail)
            go_wp2_with fail
            have hd := h.below (belowN (Below.refl _ _) nq)
            generalize wr.drewN nq = wq at *
            have hd := hd.below ((Below.refl _ _).drew)
            obtain ⟨nvd, hrd⟩ := hd.rd
            obtain ⟨A, cc, hgv⟩ := own_form hd.gs.row
            subst hgv
            have hml : gw.length + 1 ≤ maxLen := by have := congrArg List.length Hgw.out; rw [List.length_map] at this; unfold maxLen; omega
            have hml2 : gw.length ≤ 65537 := by have := congrArg List.length Hgw.out; rw [List.length_map] at this; omega
            obtain ⟨j0, hinf, hz0, hz1, hz2⟩ := info_parts infoGate
            clear b0 b1 b2 b3 b4 b5 bf h hr
            have y2 := hd.c.cell 2
            have yf := hd.c.frozen
            simp at y2
            go_region_law (first
              | (go_simp; go_at_call 89; (with_reducible refine (HGt.out _ _ _ _ hrd hd.tabs hd.kept.size hd.sp).mono ?_); rintro e w6 ⟨nv6, sv6, wv, rfl, hw6, hr6, hs6, hk6, ht6⟩; obtain ⟨A6, c6, rfl⟩ := own_form hw6; have h6 := hd.gate hr6 hs6 hk6 ht6; clear y2 yf; have hbl : B < w6.heap.size := h6.c.lt; have y2 : (w6.alloc (.cells #[.int .i64 g1.kind, .slice A6 g1.wires.length c6, .int .i64 g1.bit, .int .i64 g1.ifn] 61)).cell? ⟨B, 2, none⟩ = some (.slice A gw.length cc) := (World.cell?_alloc_lt _ _ _ hbl).trans (h6.c.cell 2); have y2b : w6.cell? ⟨B, 2, none⟩ = some (.slice A gw.length cc) := h6.c.cell 2; have yf := h6.c.frozen)
              | (refine step_append_one rfl _ _ 23 rfl w.heap.size 61 j0 _ 4 48 Tryz.underlying23 hinf hz0 hz1 hz2 rfl (by decide) (.slice A gw.length cc) gw.length (gatesC gw) rfl ((h6.gs.below (below1 w6 (.cells #[.int .i64 g1.kind, .slice A6 g1.wires.length c6, .int .i64 g1.bit, .int .i64 g1.ifn] 61))).row) ⟨w6.heap.size, 0, none⟩ 1 1 [.int .i64 g1.kind, .slice A6 g1.wires.length c6, .int .i64 g1.bit, .int .i64 g1.ifn] rfl rfl (row_new _ _ _) (by simp [Value.oneCell']) hml (by omega) (by have := h6.kept.size; simp; omega) ?_; intro v' w7 row hown' hgrow hrr; obtain ⟨g', cap', rfl⟩ := ownsRow_succ hown'; have hrr2 : ∀ g, row = some g → w.heap.size ≤ g ∧ ∃ cur, Blk (w6.alloc (.cells #[.int .i64 g1.kind, .slice A6 g1.wires.length c6, .int .i64 g1.bit, .int .i64 g1.ifn] 61)) g 61 cur := (fun g e => by rcases hrr with h | ⟨g2, cap2, cur2, h2, hv2, _, hb2, _⟩; (rw [h] at e; cases e); (rw [h2] at e; injection e with e; subst e; exact ⟨((h6.gs.row).lt g2 (by rw [hv2]; rfl)).1, cur2, hb2⟩)); have h7 := h6.below (below1 w6 (.cells #[.int .i64 g1.kind, .slice A6 g1.wires.length c6, .int .i64 g1.bit, .int .i64 g1.ifn] 61)); have h8 := h7.app (p := (g1, .slice A6 g1.wires.length c6)) HFar.out (own_below (own_base hw6 hd.kept.size) (below1 w6 (.cells #[.int .i64 g1.kind, .slice A6 g1.wires.length c6, .int .i64 g1.bit, .int .i64 g1.ifn] 61)) (Nat.le_refl _)) hown' hgrow hrr2; have h7c := h7.c.grown hgrow (fun e => by obtain ⟨_, cur, hb⟩ := hrr2 _ e.symm; exact hb.ne_ h7.c (by decide) rfl); clear y2 y2b yf; have y2 := h7c.cell 2; have yf := h7c.frozen; simp at y2))
            all_goals
              have H8 := Lib.hid h8
              clear HGt hrd hd h6 h7 h8 h7c hr6 hs6 hk6 ht6 hw6 hown' hgrow hrr hrr2
              go_wp2_with fail
              go_roundg g
              case measure => omega
              case rel => exact ⟨pre ++ [g1], sp1, sk, _, _, gw ++ [(g1, .slice A6 g1.wires.length c6)], HG2.out, H8.out, by rw [List.map_append, Hgw.out]; rfl, hik, Hfk.out, hnk, by simp; omega⟩
        · have HE : Hid ((G, sp, sE) = (pre, presp, sj)) := by show _ = _; rw [HG.out, gatesP_end (.inl (by omega))]; simp
          clear HG
          go_wp2_with fail
          go_meet
          have HE2 := HE.out
          injection HE2 with e1 e2
          injection e2 with e2 e3
          subst e1 e2 e3
          exact ⟨_, _, gw, h, Hgw.out⟩
    case rest =>
      clear h9
      have Hg5 : Hid ((gatesP ps l.length (ps.length + 1) s4).1 = G) := by show _ = _; rw [H5.out]
      clear H5
      obtain ⟨sv, gv, gw, h, hG⟩ := hcut
      have HG := Lib.hid hG
      clear hG
      obtain ⟨A, cc, hgv⟩ := own_form h.gs.row
      subst hgv
      obtain ⟨nv, hr⟩ := h.rd
      have hrb := hr.blk
      have hRw : R ≠ w.heap.size := (h.res.ne_ hrb (by decide)).symm
      obtain ⟨b0, b1, b2, b3, b4, b5, bf⟩ := hr.blk.cells6
      have z0 := h.res.cell 0
      have z1 := h.res.cell 1
      have z2 := h.res.cell 2
      have zf := h.res.frozen
      simp at z0 z1 z2
      by_cases hw : 0 ≤ sE.wrong
      · have HR : Hid (rdEnd l.length m b G sp sE = (Ct.zero, [], sE.wrong, 4)) := by show _ = _; unfold rdEnd; rw [if_pos hw]
        go_wp2_with fail
        go_region_held3 (fun W => W.cell? ⟨R, 3, none⟩ = some (.int .i64 sE.wrong)) ((with_reducible refine Blk.at3 (t := 138) (a := .string (bs l)) (b := .slice A0 ps.length c0) (c := .int .i64 sE.i) (e := nv) (f := sv) ?_) <;> (repeat (first | (with_reducible exact hrb) | ((with_reducible refine Blk.far' ?_ _ ?_); (focus ((try dsimp only); exact hRw))) | (with_reducible refine Blk.drew ?_)))) (fail)
        go_wp2_with fail
        unfold Exit.noGoto
        dsimp only
        refine bodyPost_ret (v := .tuple #[.agg #[.int .i64 0, .int .i64 0, .slice none 0 0], .slice none 0 0, .int .i64 sE.wrong, .int .i64 4]) (by simp [results, Tryz.results45, go_sem, z0, z1, z2]) rfl ?_
        rw [HR.out]
        refine rd_none _ _ ?_
        have hk := h.kept
        first | exact below_put3 hk (Nat.le_refl _) _ _ _ | exact (below_put3 hk (Nat.le_refl _) _ _ _).drew
      · have hgs := h.gs.gates
        rw [HG.out] at hgs
        have HC := Lib.hid (Check_calls m b (.slice A gw.length cc) G _ wc (Nat.le_refl _) hgs (by rw [← Hg5.out]; exact fun g hg => Nat.le_trans (gatesP_wires hg) (by decide)))
        have HR : Hid (rdEnd l.length m b G sp sE = if chkC ⟨m, b, G⟩ ≠ 0 then (Ct.zero, [], (l.length : Int), chkC ⟨m, b, G⟩) else (⟨m, b, G⟩, sp, 0, 0)) := by show _ = _; unfold rdEnd; rw [if_neg hw]
        generalize chkC ⟨m, b, G⟩ = er at *
        have y0 := h.c.cell 0
        have y1 := h.c.cell 1
        have y2 := h.c.cell 2
        simp at y0 y1 y2
        go_wp2_with fail
        refine HC.out.mono ?_
        rintro e w5 ⟨rfl, hb5⟩
        have h := h.below hb5
        clear HC y0 y1 y2 z0 z1 z2 zf b0 b1 b2 b3 b4 b5 bf hr hrb hgs hb5
        obtain ⟨nv, hr⟩ := h.rd
        have hrb := hr.blk
        have hcb := h.c
        obtain ⟨b0, b1, b2, b3, b4, b5, bf⟩ := hr.blk.cells6
        have z0 := h.res.cell 0
        have z1 := h.res.cell 1
        have z2 := h.res.cell 2
        have zf := h.res.frozen
        have y0 := h.c.cell 0
        have y1 := h.c.cell 1
        have y2 := h.c.cell 2
        simp at z0 z1 z2 y0 y1 y2
        have hk := h.kept
        by_cases he : er = 0
        · have HR2 : Hid (rdEnd l.length m b G sp sE = (⟨m, b, G⟩, sp, 0, 0)) := by show _ = _; rw [HR.out, if_neg (by rw [he]; decide)]
          subst he
          have hBw : B ≠ w.heap.size := h.hne.symm
          go_wp2_with fail
          go_region_held3 (fun W => W.cell? ⟨B, 0, none⟩ = some (.int .i64 m) ∧ W.cell? ⟨B, 1, none⟩ = some (.int .i64 b) ∧ W.cell? ⟨B, 2, none⟩ = some (.slice A gw.length cc) ∧ W.cell? ⟨R, 4, none⟩ = some nv ∧ W.cell? ⟨R, 5, none⟩ = some sv)
            ((with_reducible refine rd_five (a := .string (bs l)) (b := .slice A0 ps.length c0) (c := .int .i64 sE.i) (d := .int .i64 sE.wrong) ?_ ?_) <;> (repeat (first | (with_reducible exact hrb) | (with_reducible exact hcb) | ((with_reducible refine Blk.far' ?_ _ ?_); (focus ((try dsimp only); (first | exact hRw | exact hBw)))) | (with_reducible refine Blk.drew ?_)))) (fail)
          have hgs2 := h.gs
          have hsp2 := h.sp
          have hres := h.res
          go_wp2_with fail
          unfold Exit.noGoto
          dsimp only
          refine bodyPost_ret (v := .tuple #[.agg #[.int .i64 m, .int .i64 b, .slice A gw.length cc], sv, .int .i64 0, .int .i64 0]) (by simp [results, Tryz.results45, go_sem, z0, z1, z2]) rfl ?_
          rw [HR2.out]
          refine ⟨_, _, gw, rfl, HG.out, ?_, ?_, ?_⟩
          · refine GsAt.far ?_ hres (by decide) (by decide) (grown_put3d _ _ _ _ _)
            exact hgs2
          · refine World.ownsRow.kept ?_ (grown_put3d _ _ _ _ _) (.inr (own_blk_ne hsp2 hres (by decide)))
            exact hsp2
          · first | exact below_put3 hk (Nat.le_refl _) _ _ _ | exact (below_put3 hk (Nat.le_refl _) _ _ _).drew
        · have HR2 : Hid (rdEnd l.length m b G sp sE = (Ct.zero, [], (l.length : Int), er)) := by show _ = _; rw [HR.out, if_pos he]
          have he0 : (er != 0) = true := by simpa using he
          clear he
          go_wp2_with fail
          unfold Exit.noGoto
          dsimp only
          refine bodyPost_ret (v := .tuple #[.agg #[.int .i64 0, .int .i64 0, .slice none 0 0], .slice none 0 0, .int .i64 l.length, .int .i64 er]) (by simp [results, Tryz.results45, go_sem, z0, z1, z2]) rfl ?_
          rw [HR2.out]
          refine rd_none _ _ ?_
          first | exact below_put3 hk (Nat.le_refl _) _ _ _ | exact (below_put3 hk (Nat.le_refl _) _ _ _).drew
theorem sRead_short {l : List UInt8} (h : ¬ 65536 < l.length) : sRead l = rdEnd l.length (headP (partsP l) l.length ⟨0, -1⟩).1 (headP (partsP l) l.length ⟨0, -1⟩).2.1
    (gatesP (partsP l) l.length ((partsP l).length + 1) (headP (partsP l) l.length ⟨0, -1⟩).2.2).1 (gatesP (partsP l) l.length ((partsP l).length + 1) (headP (partsP l) l.length ⟨0, -1⟩).2.2).2.1
    (gatesP (partsP l) l.length ((partsP l).length + 1) (headP (partsP l) l.length ⟨0, -1⟩).2.2).2.2 := by
  unfold sRead
  rw [if_neg h]
  rfl
set_option maxRecDepth 100000 in
set_option maxHeartbeats 1000000 in
theorem read_calls (l : List UInt8) (hl : l.length ≤ 1000000) (w : World) (ht : Tabs w) : Calls Tryz.prog 45 #[.string (bs l)] w (RdPost (sRead l) w) := by
  have hsz : (bs l).size = l.length := bs_size l
  by_cases hlong : 65536 < l.length
  · have Hs : Hid (sRead l = (Ct.zero, [], 0, 11)) := by show _ = _; unfold sRead; rw [if_pos hlong]
    rw [Hs.out]
    go_enter Tryz.func45, Tryz.ntmps45
    go_wp2_with fail
    go_step3
    go_wp2_with fail
    unfold Exit.noGoto
    dsimp only
    exact bodyPost_ret (v := .tuple #[.agg #[.int .i64 0, .int .i64 0, .slice none 0 0], .slice none 0 0, .int .i64 0, .int .i64 11]) (by simp [results, Tryz.results45, go_sem]) rfl (rd_none _ _ (below1 _ _))
  · rw [sRead_short hlong]
    exact read_walk l (by omega) (partsP l) rfl _ _ _ _ _ _ _ _ _ _ _ rfl rfl rfl rfl rfl w ht
end Go.Proofs.YtonnegkpjmhomaaGreatDoor
end
section
namespace Go.Proofs.YtonnegkpjmhomaaGreatDoor
open Go.RowKit Go.Maps
def PsPost (r : Ct × List (Nat × Nat) × Int × Int) (w : World) (e : Ending) (w' : World) : Prop :=
  ∃ gv gw, e = .returned (.tuple #[.agg #[.int .i64 r.1.wires, .int .i64 r.1.bits, gv], .int .i64 r.2.2.1, .int .i64 r.2.2.2]) ∧ gw.map (·.1) = r.1.gates ∧ GsAt w' w.heap.size gv gw ∧ Below w.heap.size w w'
theorem GsAt.base {w : World} {n n' : Nat} {gv : Value} {gw : List (Gt × Value)} (h : GsAt w n gv gw) (hn : n' ≤ n) : GsAt w n' gv gw := ⟨own_base h.row hn, fun p hp => own_base (h.each p hp) hn⟩
set_option maxRecDepth 100000 in
set_option maxHeartbeats 1000000 in
theorem Parse_calls (l : List UInt8) (hl : l.length ≤ 1000000) (w : World) (ht : Tabs w) : Calls Tryz.prog 13 #[.string (bs l)] w (PsPost (sRead l) w) := by
  have HR := Lib.hid (fun W (h : Tabs W) => read_calls l hl W h)
  have HT := Lib.hid ht
  obtain ⟨⟨⟨wi, bi, G⟩, sp, at_, er⟩, HS⟩ : ∃ r, Hid (sRead l = r) := ⟨_, rfl⟩
  rw [HS.out] at HR ⊢
  clear ht HS
  go_enter Tryz.func13, Tryz.ntmps13
  go_wp2_with fail
  refine (HR.out _ (HT.out.below (below1 _ _))).mono ?_
  rintro e w1 ⟨gv, sv, gw, rfl, hg, hG, _, hb⟩
  obtain ⟨A, c, rfl⟩ := own_form hG.row
  have hres : Blk w1 w.heap.size 25 #[.int .i64 0, .int .i64 0, .slice none 0 0] := (Blk.new w _ _).below hb (by simp)
  have hW : Below w.heap.size w w1 := bt hb (below1 _ _) (by simp)
  have hG := hG.base (n' := w.heap.size) (by simp)
  clear hb
  dsimp only
  have hresa := hres.alloc (.cells #[.int .i64 wi, .int .i64 bi, .slice A gw.length c] 25)
  have z0 := hresa.cell 0
  have z1 := hresa.cell 1
  have z2 := hresa.cell 2
  have zf := hresa.frozen
  simp only [List.getElem?_toArray, List.getElem?_cons_zero, List.getElem?_cons_succ] at z0 z1 z2
  go_wp2_with fail
  refine bodyPost_ret (v := .tuple #[.agg #[.int .i64 wi, .int .i64 bi, .slice A gw.length c], .int .i64 at_, .int .i64 er]) (by simp [results, Tryz.results13, go_sem, z0, z1, z2]) rfl ?_
  refine ⟨_, gw, rfl, hg, ?_, ?_⟩
  · exact GsAt.far (hG.below (below1 w1 _)) hresa (by decide) (by decide) (grown_put3 _ _ _ _ _)
  · exact below_put3 (hW.alloc hW.size _) (Nat.le_refl _) _ _ _
theorem words_atD (x : List UInt8) (h : x ∉ wordTab.map (·.1)) (zd : DataW Unit) : wordsD.atKey (.string x) zd = zd := by
  unfold wordsD
  have key : ∀ (l : List (List UInt8 × Int)) (D : DataW Unit), x ∉ l.map (·.1) → (l.foldl (fun D p => D.put (.string p.1) (.lit (.int .i64 p.2))) D).atKey (.string x) zd = D.atKey (.string x) zd := by
    intro l
    induction l with
    | nil => intro D _; rfl
    | cons p l ih =>
      intro D h
      simp only [List.map_cons, List.mem_cons, not_or] at h
      rw [List.foldl_cons, ih _ h.2, atKey_put_other (fun e => h.1 (by injection e))]
  exact key wordTab (.map []) h
theorem word_found {x : List UInt8} {c : Int} (h : ∀ zd, wordsD.atKey (.string x) zd = .lit (.int .i64 c)) : c = kindW x ∧ x ∈ wordTab.map (·.1) := by
  have h0 := h (.lit (.int .i64 0))
  rw [words_at] at h0
  have e : kindW x = c := (Lit.int.inj (DataW.lit.inj h0)).2
  refine ⟨e.symm, ?_⟩
  by_cases hm : x ∈ wordTab.map (·.1)
  · exact hm
  · exfalso
    have h1 := h (.lit (.int .i64 0))
    have h2 := h (.lit (.int .i64 1))
    rw [words_atD x hm] at h1 h2
    have e1 := (Lit.int.inj (DataW.lit.inj h1)).2
    have e2 := (Lit.int.inj (DataW.lit.inj h2)).2
    omega
theorem wordK_of {x : List UInt8} (hx : x ∈ wordTab.map (·.1)) : wordK (kindW x) = x := by
  simp only [wordTab, List.map_cons, List.map_nil, List.mem_cons, List.not_mem_nil, or_false] at hx
  rcases hx with rfl | rfl | rfl | rfl | rfl | rfl | rfl | rfl | rfl | rfl | rfl | rfl | rfl | rfl <;> rfl
theorem wordK_none {k : Int} (h : ∀ p ∈ wordTab, p.2 ≠ k) : wordK k = [] := by
  unfold wordK
  rw [List.find?_eq_none.2 (fun p hp => by simpa using h p hp)]
  rfl
def Passed (k : Int) (left : Lit → Bool) : Prop := ∀ p ∈ wordTab, left (.string p.1) = false → p.2 ≠ k
theorem Passed.start (k : Int) : Passed k (Maps.has wordsD) := by
  intro p hp hl
  exfalso
  have : ∀ q ∈ wordTab, Maps.has wordsD (.string q.1) = true := by decide
  rw [this p hp] at hl
  cases hl
theorem Passed.step {k : Int} {left : Lit → Bool} {x : List UInt8} (h : Passed k left) (hx : kindW x ≠ k) : Passed k (fun z => left z && !z.sameKey (.string x)) := by
  intro p hp hl
  rw [Bool.and_eq_false_iff] at hl
  rcases hl with hl | hl
  · exact h p hp hl
  · have hs : Lit.sameKey (.string p.1) (.string x) = true := by simpa using hl
    have e : p.1 = x := by simpa [Lit.sameKey] using hs
    have h4 : ∀ q ∈ wordTab, kindW q.1 = q.2 := by decide
    rw [← h4 p hp, e]
    exact hx
set_option maxRecDepth 100000 in
set_option maxHeartbeats 2000000 in
theorem word_calls (k : Int) (w : World) : Calls Tryz.prog 93 #[.int .i64 k] w fun e w' => e = .returned (.string (bs (wordK k))) ∧ Below w.heap.size w w' := by
  have HW := Lib.hid (fun W => words_calls W)
  go_enter Tryz.func93, Tryz.ntmps93
  go_wp2_with fail
  refine (HW.out _).mono ?_
  rintro e w1 ⟨B, rfl, hown, hb⟩
  go_wp2_with (at_range; refine wpList_range_own _ rfl _ 178 rfl 9 3 lawS Tryz.underlying178 _ B 14 _ rfl hown ?_; intro w0 hrg0 hg0 hs0)
  go_frame
  have hb0 : Below w.heap.size w w0 := hb.grown hg0 hb.size (fun k e => by cases e)
  have hz0 := hb.size
  generalize hrr : w1.heap.size = r at *
  go_loopw [2] (fun s wr => s = .string (bs []) ∧ ∃ (left : Lit → Bool) (cnt : Nat), wr.ranges Tryz.prog 9 (plainElem (H := Unit) Tryz.prog 3) B r 14 wordsD left cnt ∧ Below w.heap.size w wr ∧ Passed k left)
    (fun _ wr => wr.rangeLeft B r)
  case atStart => exact ⟨rfl, _, _, hrg0, hb0, Passed.start k⟩
  case round =>
    obtain ⟨rfl, left, cnt, hrg, hgw, hp⟩ := hrel
    go_wp2_with (first | (at_next; refine wpList_next_ranges (α := ByteArray) (β := Int) _ rfl _ rfl 9 lawS (plainElem (H := Unit) Tryz.prog 3) Value.string (Value.int .i64) (fun key kl hk => by obtain ⟨s, e, _⟩ := WideMaps.string_of_keyOf Tryz.underlying9 hk; exact ⟨s, e⟩) (fun v y hv => by obtain ⟨c, e, _⟩ := plainElem_int_inv Tryz.underlying3 hv; exact ⟨c, e⟩) B r 14 _ _ _ rfl hrg ?_ ?_) | go_in)
    · intro _ hl0
      have Hk : Hid (wordK k = []) := wordK_none (fun p hp' => hp p hp' (hl0 _))
      go_wp2_with fail
      go_ret
      exact ⟨by rw [Hk.out]; rfl, hgw⟩
    · intro x c kl y1 y2 w2 cnt2 hkey hlx hR hat hrg2 hlt hg2 hs2 hen
      obtain ⟨s, e1, rfl, _⟩ := WideMaps.string_of_keyOf Tryz.underlying9 hkey
      injection e1 with e1
      subst e1
      obtain ⟨c', e2, hy, _⟩ := plainElem_int_inv Tryz.underlying3 hR
      injection e2 with _ e2
      subst e2
      injection hy with hy1 hy2
      subst hy1
      obtain ⟨hc, hm⟩ := word_found hat
      have hxw := wordK_of hm
      have hgw2 := hgw.grown hg2 (by have := hgw.size; omega) (fun j hj => by injection hj with hj; omega)
      have Hx : Hid (x = bs x.data.toList) := by show _ = _; rfl
      have Hp := Lib.hid hp
      have Hc := Lib.hid hc
      have Hxw := Lib.hid hxw
      clear hat hR hm hp hc hxw hgw hg2
      by_cases hck : c = k
      · have Hk : Hid (wordK k = x.data.toList) := by show _ = _; rw [← Hxw.out, ← Hc.out, hck]
        subst hck
        go_wp2_with fail
        go_ret
        exact ⟨by rw [Hk.out]; rfl, hgw2⟩
      · have hne : (c == k) = false := by rw [beq_eq_false_iff_ne]; exact hck
        have Hp2 : Hid (Passed k (fun z => left z && !z.sameKey (.string x.data.toList))) := Hp.out.step (by rw [← Hc.out]; exact hck)
        clear hck
        go_wp2_with fail
        go_roundw
        case rel => exact ⟨rfl, _, _, hrg2, hgw2, Hp2.out⟩
        case measure => rw [hrg2.left_eq, hrg.left_eq]; exact hlt
end Go.Proofs.YtonnegkpjmhomaaGreatDoor
end
