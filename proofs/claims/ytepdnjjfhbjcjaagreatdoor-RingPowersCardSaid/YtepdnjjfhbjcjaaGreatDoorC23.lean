import Derived.OwnWalk
import Derived.Laws.CopyRow
import Derived.Laws.MakeOwn
import Derived.Test.YtepdnjjfhbjcjaaGreatDoorC6
set_option linter.all false
section
namespace Go.Proofs.YtepdnjjfhbjcjaaGreatDoor
open Go.RowKit
def sumN : Nm → List Nm → Nm × Int
  | o, [] => (o, 0)
  | o, x :: l => if (sAdd o x).2 = 0 then sumN (sAdd o x).1 l else (Nm.zero, (sAdd o x).2)
def sSum (l : List Nm) : Nm × Int := if chks l = 0 then sumN Nm.zero l else (Nm.zero, chks l)
def flatV : List Nm → List Value
  | [] => []
  | x :: l => .int .i64 x.p.a :: .int .i64 x.p.b :: .int .i64 x.p.c :: .int .i64 x.p.d :: .int .i64 x.k :: flatV l
theorem flatV_len (l : List Nm) : (flatV l).length = l.length * 5 := by
  induction l with
  | nil => rfl
  | cons x l ih => simp only [flatV, List.length_cons, ih]; omega
theorem flatV_at (l : List Nm) : ∀ (j : Nat) (x : Nm), l[j]? = some x → (flatV l)[j * 5]? = some (.int .i64 x.p.a) ∧ (flatV l)[j * 5 + 1]? = some (.int .i64 x.p.b) ∧ (flatV l)[j * 5 + 2]? = some (.int .i64 x.p.c) ∧ (flatV l)[j * 5 + 3]? = some (.int .i64 x.p.d) ∧ (flatV l)[j * 5 + 4]? = some (.int .i64 x.k) := by
  induction l with
  | nil => intro j x h; simp at h
  | cons y l ih =>
    intro j x h
    cases j with
    | zero => simp at h; subst h; exact ⟨rfl, rfl, rfl, rfl, rfl⟩
    | succ j =>
      have h2 := ih j x (by simpa using h)
      rw [show (j + 1) * 5 = j * 5 + 5 by omega]
      simpa [flatV, Nat.add_assoc] using h2
theorem flatV_get {l : List Nm} {j : Nat} {v : Value} (h : (flatV l)[j]? = some v) : ∃ i x, l[i]? = some x ∧ i < l.length ∧ (j = i * 5 ∧ v = .int .i64 x.p.a ∨ j = i * 5 + 1 ∧ v = .int .i64 x.p.b ∨ j = i * 5 + 2 ∧ v = .int .i64 x.p.c ∨ j = i * 5 + 3 ∧ v = .int .i64 x.p.d ∨ j = i * 5 + 4 ∧ v = .int .i64 x.k) := by
  have hj : j < l.length * 5 := by rw [← flatV_len]; exact (List.getElem?_eq_some_iff.1 h).1
  have hi : j / 5 < l.length := by omega
  obtain ⟨x, hx⟩ : ∃ x, l[j / 5]? = some x := ⟨_, List.getElem?_eq_getElem hi⟩
  obtain ⟨h0, h1, h2, h3, h4⟩ := flatV_at l (j / 5) x hx
  refine ⟨j / 5, x, hx, hi, ?_⟩
  rcases (show j % 5 = 0 ∨ j % 5 = 1 ∨ j % 5 = 2 ∨ j % 5 = 3 ∨ j % 5 = 4 by omega) with e | e | e | e | e
  · obtain e2 : j = j / 5 * 5 := by omega
    rw [e2] at h; rw [h0] at h; exact .inl ⟨e2, (Option.some.inj h).symm⟩
  · obtain e2 : j = j / 5 * 5 + 1 := by omega
    rw [e2] at h; rw [h1] at h; exact .inr (.inl ⟨e2, (Option.some.inj h).symm⟩)
  · obtain e2 : j = j / 5 * 5 + 2 := by omega
    rw [e2] at h; rw [h2] at h; exact .inr (.inr (.inl ⟨e2, (Option.some.inj h).symm⟩))
  · obtain e2 : j = j / 5 * 5 + 3 := by omega
    rw [e2] at h; rw [h3] at h; exact .inr (.inr (.inr (.inl ⟨e2, (Option.some.inj h).symm⟩)))
  · obtain e2 : j = j / 5 * 5 + 4 := by omega
    rw [e2] at h; rw [h4] at h; exact .inr (.inr (.inr (.inr ⟨e2, (Option.some.inj h).symm⟩)))
theorem flatV_one {l : List Nm} {v : Value} (h : v ∈ flatV l) : v.oneCell' = true := by
  obtain ⟨j, hj⟩ := List.mem_iff_getElem?.1 h
  obtain ⟨i, x, _, _, h⟩ := flatV_get hj
  rcases h with ⟨_, rfl⟩ | ⟨_, rfl⟩ | ⟨_, rfl⟩ | ⟨_, rfl⟩ | ⟨_, rfl⟩ <;> rfl
theorem rowAt_of {w : World} {g : Nat} {l : List Nm} {t : TypeId} (h : w.heap[g]? = some (.cells (flatV l).toArray t (0, 0))) : rowAt w g l := by
  intro j x hx
  obtain ⟨h0, h1, h2, h3, h4⟩ := flatV_at l j x hx
  have hb : Blk w g t (flatV l).toArray := h
  refine ⟨(hb.cell _).trans ?_, (hb.cell _).trans ?_, (hb.cell _).trans ?_, (hb.cell _).trans ?_, (hb.cell _).trans ?_⟩ <;> simpa using ‹_›
theorem run_copy5 (w : World) (ty : TypeId) (g n c b off : Nat) (cap : Nat) (l : List Nm) (cur : Array Value) (hl : l.length = n) (hg : w.heap[g]? = some (.cells cur 23 (0, 0))) (hc : cur.size = n * 5)
    (hsrc : ∀ (j : Nat) (v : Value), (flatV l)[j]? = some v → w.cell? ⟨b, off + j, none⟩ = some v) :
    (Builtin.copy_ #[24, 24] ty #[.slice (some ⟨g, 0, none⟩) n c, .slice (some ⟨b, off, none⟩) n cap]).run Tryz.prog w = .ok (goInt n) (w.setRow g (flatV l).toArray) := by
  have hlen : (flatV l).length = n * 5 := by rw [flatV_len, hl]
  have hld := run_loadCells_list (P := Tryz.prog) w ⟨b, off, none⟩ (flatV l) (fun j v h => by rw [Addr.add_lit]; exact hsrc j v h)
  have hst := run_storeCells_at Tryz.prog g 0 23 (flatV l) 0 cur w hg (by rw [hlen, hc]; omega) (fun v hv => flatV_one hv)
  rw [hlen] at hld
  obtain ⟨i, hi, hz0, hz1, hz2⟩ := info_parts (show (Tryz.prog.info? 23).map (fun i => (i.zero, i.size, i.bytes)) = some (some (.agg #[.int .i64 0, .int .i64 0, .int .i64 0, .int .i64 0, .int .i64 0]), 5, 40) from by kernel_rfl)
  have e : cur.toList.take (0 + 0) ++ flatV l ++ cur.toList.drop (0 + 0 + (flatV l).length) = flatV l := by
    rw [hlen, List.drop_of_length_le (by simp [hc])]; simp
  rw [e] at hst
  simp [Builtin.copy_, run_underlying Tryz.underlying24, Builtin.lenOf, Builtin.firstCells, sizeOf, typeInfo, hi, hz1, hld, hst]
theorem nadd_calls (x z : Nm) (hx : x.chk = 0) (hz : z.chk = 0) (w : World) :
    Calls Tryz.prog 34 #[.agg #[.int .i64 x.p.a, .int .i64 x.p.b, .int .i64 x.p.c, .int .i64 x.p.d, .int .i64 x.k, .func (.func 70) #[] #[]], .agg #[.int .i64 z.p.a, .int .i64 z.p.b, .int .i64 z.p.c, .int .i64 z.p.d, .int .i64 z.k]] w fun e w' =>
      ∃ (y : Nm) (er : Int), e = .returned (.tuple #[.agg #[.int .i64 y.p.a, .int .i64 y.p.b, .int .i64 y.p.c, .int .i64 y.p.d, .int .i64 y.k], .int .i64 er]) ∧ sAdd x z = (y, er) ∧ Below w.heap.size w w' := by
  have h0 : chks [x, z] = 0 := by simp only [chks]; rw [hx, hz]; rfl
  obtain ⟨hlx, hkx0, hkx1⟩ := Nm.chk_ok hx
  obtain ⟨hlz, hkz0, hkz1⟩ := Nm.chk_ok hz
  obtain ⟨k, hk⟩ : ∃ k : Nat, x.k = k := ⟨x.k.toNat, by omega⟩
  obtain ⟨l, hl⟩ : ∃ l : Nat, z.k = l := ⟨z.k.toNat, by omega⟩
  have HA := add_calls x.p z.p k l (max k l) hlx hlz (by omega) (by omega) (by omega) (by omega) w
  rw [← hk, ← hl] at HA
  refine HA.mono ?_
  rintro e w' ⟨y, er, rfl, hy, hb⟩
  refine ⟨y, er, rfl, ?_, hb⟩
  unfold sAdd plusP
  rw [if_pos h0, ← hy, hk, hl]
  rfl
theorem chks_at {l : List Nm} (h : chks l = 0) : ∀ (j : Nat) (x : Nm), l[j]? = some x → x.chk = 0 := by
  induction l with
  | nil => intro j x hx; simp at hx
  | cons y l ih =>
    intro j x hx
    simp only [chks] at h
    by_cases hy : y.chk = 0
    · rw [if_pos hy] at h
      cases j with
      | zero => simp at hx; subst hx; exact hy
      | succ j => exact ih h j x (by simpa using hx)
    · rw [if_neg hy] at h; exact absurd h hy
theorem sAdd_chk {x z y : Nm} (h : sAdd x z = (y, 0)) : y.chk = 0 := by
  unfold sAdd at h
  by_cases h0 : chks [x, z] = 0
  · rw [if_pos h0] at h; exact okN_ok h
  · rw [if_neg h0] at h; injection h with _ h2; exact absurd h2 h0
theorem row_below {w w' : World} {g : Nat} {o : Obj} (h : Hid (w.heap[g]? = some o)) (hb : Below w.heap.size w w') : Hid (w'.heap[g]? = some o) := (hb.block g (Array.getElem?_eq_some_iff.1 h.out).1).trans h.out
def Grew (X w : World) : Prop := (X.heap = w.heap ∨ ∃ o, X.heap = w.heap.push o) ∧ X.os = w.os ∧ X.tape = w.tape ∧ X.output = w.output
theorem Grew.get {X w : World} (h : Grew X w) {g : Nat} (hg : g < w.heap.size) : X.heap[g]? = w.heap[g]? ∧ g < X.heap.size := by
  rcases h.1 with e | ⟨o, e⟩
  · rw [e]; exact ⟨rfl, hg⟩
  · rw [e]; exact ⟨by rw [Array.getElem?_push_lt hg, Array.getElem?_eq_getElem hg], by simp; omega⟩
theorem Blk.step {X w w' : World} {g : Nat} {t : TypeId} {cs : Array Value} (h : Blk w g t cs) (hb : Below X.heap.size X w') (hX : Grew X w) : Blk w' g t cs :=
  (hb.block g (hX.get h.lt).2).trans ((hX.get h.lt).1.trans h)
theorem row_step {X w w' : World} {g : Nat} {o : Obj} (h : Hid (w.heap[g]? = some o)) (hb : Below X.heap.size X w') (hX : Grew X w) : Hid (w'.heap[g]? = some o) :=
  (hb.block g (hX.get (Array.getElem?_eq_some_iff.1 h.out).1).2).trans ((hX.get (Array.getElem?_eq_some_iff.1 h.out).1).1.trans h.out)
theorem below_step {a X w w' : World} (h : Below a.heap.size a w) (hb : Below X.heap.size X w') (hX : Grew X w) : Below a.heap.size a w' := by
  have hs : w.heap.size ≤ X.heap.size := by rcases hX.1 with e | ⟨o, e⟩ <;> rw [e] <;> simp
  have hsz := h.size
  exact (h.trans (show Below a.heap.size w X from ⟨hX.2.1, hX.2.2.1, hX.2.2.2, hs, fun k hk => (hX.get (by omega)).1⟩)).trans (hb.mono (by omega))
theorem Blk.fresh {X w w' : World} {t : TypeId} {cs : Array Value} (hb : Below X.heap.size X w') (hX : X.heap = w.heap.push (.cells cs t)) : Blk w' w.heap.size t cs :=
  (hb.block w.heap.size (by rw [hX]; simp)).trans (by rw [hX]; simp)
theorem row_alloc {w : World} {g : Nat} {o : Obj} (h : Hid (w.heap[g]? = some o)) (o' : Obj) : Hid ((w.alloc o').heap[g]? = some o) := (Below.heap_alloc w o' g (Array.getElem?_eq_some_iff.1 h.out).1).trans h.out
theorem size_put5 (w : World) (N : Nat) (v0 v1 v2 v3 v4 : Value) : (((((w.setCell ⟨N, 0, none⟩ v0).setCell ⟨N, 1, none⟩ v1).setCell ⟨N, 2, none⟩ v2).setCell ⟨N, 3, none⟩ v3).setCell ⟨N, 4, none⟩ v4).heap.size = w.heap.size := by simp
theorem Blk.far5 {w : World} {g N : Nat} {t : TypeId} {cs : Array Value} (h : Blk w g t cs) (hn : g ≠ N) (v0 v1 v2 v3 v4 : Value) :
    Blk (((((w.setCell ⟨N, 0, none⟩ v0).setCell ⟨N, 1, none⟩ v1).setCell ⟨N, 2, none⟩ v2).setCell ⟨N, 3, none⟩ v3).setCell ⟨N, 4, none⟩ v4) g t cs := ((((h.far hn _).far hn _).far hn _).far hn _).far hn _
theorem row_far5 {w : World} {g N : Nat} {o : Obj} (h : Hid (w.heap[g]? = some o)) (hn : g ≠ N) (v0 v1 v2 v3 v4 : Value) :
    Hid ((((((w.setCell ⟨N, 0, none⟩ v0).setCell ⟨N, 1, none⟩ v1).setCell ⟨N, 2, none⟩ v2).setCell ⟨N, 3, none⟩ v3).setCell ⟨N, 4, none⟩ v4).heap[g]? = some o) := by
  show _ = _
  rw [Below.heap_setCell _ _ _ _ (by exact hn), Below.heap_setCell _ _ _ _ (by exact hn), Below.heap_setCell _ _ _ _ (by exact hn), Below.heap_setCell _ _ _ _ (by exact hn), Below.heap_setCell _ _ _ _ (by exact hn)]
  exact h.out
structure Behind (a W : World) (N B R G P : Nat) (y o : Nm) (row : Obj) : Prop where
  n : Blk W N 23 #[.int .i64 y.p.a, .int .i64 y.p.b, .int .i64 y.p.c, .int .i64 y.p.d, .int .i64 y.k]
  b : Blk W B 23 #[.int .i64 o.p.a, .int .i64 o.p.b, .int .i64 o.p.c, .int .i64 o.p.d, .int .i64 o.k]
  r : Blk W R 23 #[.int .i64 0, .int .i64 0, .int .i64 0, .int .i64 0, .int .i64 0]
  g : Hid (W.heap[G]? = some row)
  bel : Below a.heap.size a W
  lt : P < N
theorem behind1 {a w6 : World} {N B R G P : Nat} {o : Nm} {row : Obj} (hn1 : Blk w6 N 23 #[.int .i64 0, .int .i64 0, .int .i64 0, .int .i64 0, .int .i64 0]) (hx1 : Blk w6 B 23 #[.int .i64 o.p.a, .int .i64 o.p.b, .int .i64 o.p.c, .int .i64 o.p.d, .int .i64 o.k]) (hr1 : Blk w6 R 23 #[.int .i64 0, .int .i64 0, .int .i64 0, .int .i64 0, .int .i64 0]) (hrow : Hid (w6.heap[G]? = some row)) (hbw : Below a.heap.size a w6) (hP : P < N) (h1 : B < P) (h2 : R < P) (h3 : G < P) (h4 : a.heap.size ≤ P) (y : Nm) :
    ∃ W, (((((w6.setCell ⟨N, 0, none⟩ (.int .i64 y.p.a)).setCell ⟨N, 1, none⟩ (.int .i64 y.p.b)).setCell ⟨N, 2, none⟩ (.int .i64 y.p.c)).setCell ⟨N, 3, none⟩ (.int .i64 y.p.d)).setCell ⟨N, 4, none⟩ (.int .i64 y.k)) = W ∧ Behind a W N B R G P y o row :=
  ⟨_, rfl, hn1.put5, hx1.far5 (by omega) _ _ _ _ _, hr1.far5 (by omega) _ _ _ _ _, row_far5 hrow (by omega) _ _ _ _ _, below_put5 hbw (by omega) _ _ _ _ _, hP⟩
theorem behind2 {a w6 : World} {B R G P : Nat} {o : Nm} {row : Obj} (hx1 : Blk w6 B 23 #[.int .i64 o.p.a, .int .i64 o.p.b, .int .i64 o.p.c, .int .i64 o.p.d, .int .i64 o.k]) (hr1 : Blk w6 R 23 #[.int .i64 0, .int .i64 0, .int .i64 0, .int .i64 0, .int .i64 0]) (hrow : Hid (w6.heap[G]? = some row)) (hbw : Below a.heap.size a w6) (hP : P < w6.heap.size) (y : Nm) :
    ∃ W, w6.alloc (.cells #[.int .i64 y.p.a, .int .i64 y.p.b, .int .i64 y.p.c, .int .i64 y.p.d, .int .i64 y.k] 23) = W ∧ Behind a W w6.heap.size B R G P y o row :=
  ⟨_, rfl, Blk.new _ _ _, hx1.alloc _, hr1.alloc _, row_alloc hrow _, hbw.alloc hbw.size _, hP⟩
theorem info23 : (Tryz.prog.info? 23).map (fun i => (i.zero, i.size, i.bytes)) = some (some (.agg #[.int .i64 0, .int .i64 0, .int .i64 0, .int .i64 0, .int .i64 0]), 5, 40) := by kernel_rfl
set_option maxRecDepth 100000 in
set_option maxHeartbeats 8000000 in
theorem Sum_calls (zs : List Nm) (b off cap : Nat) (hl : zs.length ≤ 1000) (w : World) (hz : ∀ (j : Nat) (v : Value), (flatV zs)[j]? = some v → w.cell? ⟨b, off + j, none⟩ = some v) :
    Calls Tryz.prog 11 #[.slice (some ⟨b, off, none⟩) zs.length cap] w fun e w' => ∃ (y : Nm) (er : Int), e = .returned (.tuple #[.agg #[.int .i64 y.p.a, .int .i64 y.p.b, .int .i64 y.p.c, .int .i64 y.p.d, .int .i64 y.k], .int .i64 er]) ∧ sSum zs = (y, er) ∧ Below w.heap.size w w' := by
  obtain ⟨i0, hi, hz0, hz1, hz2⟩ := info_parts info23
  have Hz := Lib.hid hz
  clear hz
  have HI := Lib.hid hi
  have H0 := Lib.hid hz0
  have H1 := Lib.hid hz1
  have H2 := Lib.hid hz2
  clear hi hz0 hz1 hz2
  go_enter Tryz.func11, Tryz.ntmps11
  go_wp2_with (at_make; refine wpList_make_full _ rfl _ _ 24 rfl w.heap.size 23 i0 (.agg #[.int .i64 0, .int .i64 0, .int .i64 0, .int .i64 0, .int .i64 0]) 5 Tryz.underlying24 HI.out H0.out H1.out .i64 .i64 _ _ zs.length rfl rfl rfl rfl (by rw [H2.out]; omega) (by unfold maxLen; omega) (by simp) ?_; intro w1 hown hgrow)
  rcases hown.2 with ⟨h, _⟩ | ⟨g, cp, cur, hv, hg, hcur, _, _, hcs, _⟩
  · cases h
  injection hv with hv1 _ hv3
  injection hv1 with hv1
  injection hv1 with hv1 _ _
  subst hv1 hv3
  have hbw1 : Below w.heap.size w w1 := ((below1 w _).grown hgrow (by simp) (by intro k hk; cases hk))
  have hr1 : Blk w1 w.heap.size 23 #[.int .i64 0, .int .i64 0, .int .i64 0, .int .i64 0, .int .i64 0] := (hgrow.block _ (by simp) (by intro e; cases e)).trans (Blk.new w _ _)
  have Hcur := Lib.hid hcur
  have Hcs := Lib.hid hcs
  have hsz1 : w.heap.size + 1 < w1.heap.size := by have := (Array.getElem?_eq_some_iff.1 hcur).1; simpa using this
  clear hcur hcs hown hgrow hg
  have hg2 : w1.heap[w.heap.size + 1]? = some (.cells cur 23 (0, 0)) := by have := Hcur.out; rw [World.size_alloc] at this; exact this
  have hsrc : ∀ (j : Nat) (v : Value), (flatV zs)[j]? = some v → w1.cell? ⟨b, off + j, none⟩ = some v := fun j v h => by
    have h2 := Hz.out j v h
    exact (hbw1.cell (World.block_lt_of_cell? w _ h2)).trans h2
  rw [run_copy5 w1 3 (w.heap.size + 1) zs.length zs.length b off cap zs cur rfl hg2 Hcs.out hsrc]
  obtain ⟨w2, e2, hrow2, hr2, hbw2, hsz2⟩ : ∃ w2, w1.setRow (w.heap.size + 1) (flatV zs).toArray = w2 ∧ Hid (w2.heap[w.heap.size + 1]? = some (.cells (flatV zs).toArray 23 (0, 0))) ∧ Blk w2 w.heap.size 23 #[.int .i64 0, .int .i64 0, .int .i64 0, .int .i64 0, .int .i64 0] ∧ Below w.heap.size w w2 ∧ w.heap.size + 1 < w2.heap.size :=
    ⟨_, rfl, setRow_heap w1 _ cur _ _ _ hg2, (setRow_other w1 _ _ _ (by omega)).trans hr1, hbw1.trans ⟨rfl, rfl, rfl, by simp [World.setRow], fun k hk => setRow_other w1 _ k _ (by omega)⟩, by simp [World.setRow]; exact hsz1⟩
  rw [e2]
  clear e2 hg2 hsrc hbw1 hr1 Hcur Hcs hsz1 HI H0 H1 H2 Hz
  obtain ⟨n, hn⟩ : ∃ n : Int, chks zs = n := ⟨_, rfl⟩
  have Hn := Lib.hid hn
  clear hn
  go_wp2_with fail
  refine (checks_calls zs _ _ hl _ hsz2 (rowAt_of hrow2.out)).mono ?_
  rintro e w3 ⟨rfl, hb⟩
  rw [Hn.out]
  have hr3 := hr2.below hb hr2.lt
  have hrow3 : Hid (w3.heap[w.heap.size + 1]? = some (.cells (flatV zs).toArray 23 (0, 0))) := (hb.block _ hsz2).trans hrow2.out
  have hbw3 := bt hb hbw2 hbw2.size
  have hsz3 : w.heap.size + 1 < w3.heap.size := Nat.lt_of_lt_of_le hsz2 hb.size
  clear hb hr2 hrow2 hbw2 hsz2
  obtain ⟨r0, r1, r2, r3, r4, rf⟩ := hr3.cells5
  by_cases h0 : n = 0
  · subst h0
    go_upto_block 8 with fail
    have hc := chks_at Hn.out
    obtain ⟨B, w4, e3, e4, hB, hr4, hrow4, hbw4, hB1⟩ : ∃ B w4, w3.heap.size = B ∧ w3.alloc (.cells #[.int .i64 0, .int .i64 0, .int .i64 0, .int .i64 0, .int .i64 0] 23) = w4 ∧ Blk w4 B 23 #[.int .i64 Nm.zero.p.a, .int .i64 Nm.zero.p.b, .int .i64 Nm.zero.p.c, .int .i64 Nm.zero.p.d, .int .i64 Nm.zero.k] ∧ Blk w4 w.heap.size 23 #[.int .i64 0, .int .i64 0, .int .i64 0, .int .i64 0, .int .i64 0] ∧ Hid (w4.heap[w.heap.size + 1]? = some (.cells (flatV zs).toArray 23 (0, 0))) ∧ Below w.heap.size w w4 ∧ w.heap.size + 1 < B :=
      ⟨_, _, rfl, rfl, Blk.new _ _ _, hr3.alloc _, (Below.heap_alloc w3 _ _ hsz3).trans hrow3.out, hbw3.alloc hbw3.size _, hsz3⟩
    rw [e3, e4]
    have Hc := Lib.hid hc
    have Hs0 : Hid (sSum zs = sumN Nm.zero zs) := by show _ = _; unfold sSum; rw [if_pos Hn.out]
    clear e3 e4 hr3 hrow3 hbw3 hsz3 r0 r1 r2 r3 r4 rf hc Hn
    go_loopg [3, 8, 9, 10, 26] zs.length (fun g s3 _ _ _ s26 wr => ∃ (k : Nat) (o : Nm), k ≤ zs.length ∧ g = zs.length - k ∧ s3 = .int .i64 0 ∧ s26 = .int .i64 k ∧ o.chk = 0 ∧ sSum zs = sumN o (zs.drop k) ∧ Blk wr B 23 #[.int .i64 o.p.a, .int .i64 o.p.b, .int .i64 o.p.c, .int .i64 o.p.d, .int .i64 o.k] ∧ Blk wr w.heap.size 23 #[.int .i64 0, .int .i64 0, .int .i64 0, .int .i64 0, .int .i64 0] ∧ wr.heap[w.heap.size + 1]? = some (.cells (flatV zs).toArray 23 (0, 0)) ∧ Below w.heap.size w wr)
    case atStart => exact ⟨0, Nm.zero, by omega, rfl, rfl, rfl, by decide, Hs0.out, hB, hr4, hrow4.out, hbw4⟩
    case round =>
      obtain ⟨k, o, hk, rfl, rfl, rfl, hoc, hs, hBo, hrr, hrow, hbw⟩ := hrel
      have Hs := Lib.hid hs
      have Hrow := Lib.hid hrow
      have Hoc := Lib.hid hoc
      clear hs hrow hoc hB hr4 hbw4 hrow4
      have hlB := hBo.lt
      obtain ⟨o0, o1, o2, o3, o4, off⟩ := hBo.cells5
      obtain ⟨r0, r1, r2, r3, r4, rf⟩ := hrr.cells5
      by_cases hlt : k < zs.length
      · obtain ⟨x, Hd, hx⟩ : ∃ x, Hid (zs.drop k = x :: zs.drop (k + 1)) ∧ zs[k]? = some x :=
          ⟨zs[k], by show zs.drop k = _; rw [List.drop_eq_getElem_cons hlt], List.getElem?_eq_getElem hlt⟩
        have Hxc := Lib.hid (Hc.out k x hx)
        obtain ⟨c0, c1, c2, c3, c4⟩ := rowAt_of Hrow.out k x hx
        clear hx
        go_upto_region 10 with fail
        obtain ⟨P, w5, e5, e6, hx5, hy5, hr5, hrow5, hbw5, hBP⟩ : ∃ P w5, wr.heap.size = P ∧ wr.alloc (.cells #[.int .i64 x.p.a, .int .i64 x.p.b, .int .i64 x.p.c, .int .i64 x.p.d, .int .i64 x.k] 23) = w5 ∧ Blk w5 B 23 #[.int .i64 o.p.a, .int .i64 o.p.b, .int .i64 o.p.c, .int .i64 o.p.d, .int .i64 o.k] ∧ Blk w5 P 23 #[.int .i64 x.p.a, .int .i64 x.p.b, .int .i64 x.p.c, .int .i64 x.p.d, .int .i64 x.k] ∧ Blk w5 w.heap.size 23 #[.int .i64 0, .int .i64 0, .int .i64 0, .int .i64 0, .int .i64 0] ∧ Hid (w5.heap[w.heap.size + 1]? = some (.cells (flatV zs).toArray 23 (0, 0))) ∧ Below w.heap.size w w5 ∧ B < P :=
          ⟨_, _, rfl, rfl, hBo.alloc _, Blk.new _ _ _, hrr.alloc _, (Below.heap_alloc wr _ _ (by omega)).trans Hrow.out, hbw.alloc hbw.size _, hlB⟩
        rw [e5, e6]
        have hx1 := hx5.drew
        have hy1 := hy5.drew
        have hr1 := hr5.drew
        have hrow1 : Hid (w5.drew.heap[w.heap.size + 1]? = some (.cells (flatV zs).toArray 23 (0, 0))) := hrow5
        have hbw1 := hbw5.drew
        have HA := Lib.hid (fun W => nadd_calls o x Hoc.out Hxc.out W)
        have hz1 := hy5.lt
        clear e5 e6 hr5 hrow5 hbw5 hBo hrr hbw hlB o0 o1 o2 o3 o4 off r0 r1 r2 r3 r4 rf c0 c1 c2 c3 c4 Hrow
        go_region_held3 (fun w' => w'.cell? ⟨B, 0, none⟩ = some (.int .i64 o.p.a) ∧ w'.cell? ⟨B, 1, none⟩ = some (.int .i64 o.p.b) ∧ w'.cell? ⟨B, 2, none⟩ = some (.int .i64 o.p.c) ∧ w'.cell? ⟨B, 3, none⟩ = some (.int .i64 o.p.d) ∧ w'.cell? ⟨B, 4, none⟩ = some (.int .i64 o.k) ∧ w'.cell? ⟨P, 0, none⟩ = some (.int .i64 x.p.a) ∧ w'.cell? ⟨P, 1, none⟩ = some (.int .i64 x.p.b) ∧ w'.cell? ⟨P, 2, none⟩ = some (.int .i64 x.p.c) ∧ w'.cell? ⟨P, 3, none⟩ = some (.int .i64 x.p.d) ∧ w'.cell? ⟨P, 4, none⟩ = some (.int .i64 x.k)) (((with_reducible refine five_five (t := 23) (t' := 23) ?_ ?_) <;> (repeat (first | (with_reducible exact hx1) | (with_reducible exact hy1) | (with_reducible exact hx5) | (with_reducible exact hy5) | ((with_reducible refine Blk.far' ?_ _ ?_); (focus ((try dsimp only); omega))) | (with_reducible refine Blk.alloc ?_ _) | (with_reducible refine Blk.drew ?_)))))
          (first
            | (go_at_call 33; (with_reducible refine (work_calls _ _ _ _ _ _).mono ?_); rintro e w6 ⟨rfl, hb1⟩; (first | (have hn1 := hn1.step hb1 (⟨by first | exact .inl rfl | exact .inr ⟨_, rfl⟩, rfl, rfl, rfl⟩); obtain ⟨n0, n1, n2, n3, n4, nf⟩ := hn1.cells5) | (have hn1 := Blk.fresh hb1 rfl; obtain ⟨n0, n1, n2, n3, n4, nf⟩ := hn1.cells5) | skip); have hx1 := hx1.step hb1 (⟨by first | exact .inl rfl | exact .inr ⟨_, rfl⟩, rfl, rfl, rfl⟩); have hy1 := hy1.step hb1 (⟨by first | exact .inl rfl | exact .inr ⟨_, rfl⟩, rfl, rfl, rfl⟩); have hr1 := hr1.step hb1 (⟨by first | exact .inl rfl | exact .inr ⟨_, rfl⟩, rfl, rfl, rfl⟩); have hrow1 := row_step hrow1 hb1 (⟨by first | exact .inl rfl | exact .inr ⟨_, rfl⟩, rfl, rfl, rfl⟩); have hbw1 := below_step hbw1 hb1 (⟨by first | exact .inl rfl | exact .inr ⟨_, rfl⟩, rfl, rfl, rfl⟩); clear hb1; have hz1 := hy1.lt)
            | (go_at_call 34; (with_reducible refine (HA.out _).mono ?_); rintro e w6 ⟨y, er, rfl, hy, hb1⟩; have Hy := Lib.hid hy; clear hy; (first | (have hn1 := hn1.step hb1 (⟨by first | exact .inl rfl | exact .inr ⟨_, rfl⟩, rfl, rfl, rfl⟩); obtain ⟨n0, n1, n2, n3, n4, nf⟩ := hn1.cells5) | (have hn1 := Blk.fresh hb1 rfl; obtain ⟨n0, n1, n2, n3, n4, nf⟩ := hn1.cells5) | skip); have hx1 := hx1.step hb1 (⟨by first | exact .inl rfl | exact .inr ⟨_, rfl⟩, rfl, rfl, rfl⟩); have hy1 := hy1.step hb1 (⟨by first | exact .inl rfl | exact .inr ⟨_, rfl⟩, rfl, rfl, rfl⟩); have hr1 := hr1.step hb1 (⟨by first | exact .inl rfl | exact .inr ⟨_, rfl⟩, rfl, rfl, rfl⟩); have hrow1 := row_step hrow1 hb1 (⟨by first | exact .inl rfl | exact .inr ⟨_, rfl⟩, rfl, rfl, rfl⟩); have hbw1 := below_step hbw1 hb1 (⟨by first | exact .inl rfl | exact .inr ⟨_, rfl⟩, rfl, rfl, rfl⟩); clear hb1; have hz1 := hy1.lt))
        all_goals
          have hws : w.heap.size ≤ P := by omega
          first
            | (obtain ⟨W7, e7, hn7, hB7, hr7, hg7, hb7, hl7⟩ := behind1 hn1 hx1 hr1 hrow1 hbw1 (P := P) (by omega) hBP (by omega) (by omega) hws y; rw [e7]; clear e7)
            | (obtain ⟨W7, e7, hn7, hB7, hr7, hg7, hb7, hl7⟩ := behind2 hx1 hr1 hrow1 hbw1 hz1 y; rw [e7]; clear e7)
          try clear n0 n1 n2 n3 n4 nf hn1
          clear hx5 hy5 hx1 hy1 hr1 hrow1 hbw1 HA
          have q1 := Nat.ne_of_lt (Nat.lt_trans hBP hl7)
          have q2 := Ne.symm q1
          obtain ⟨n0, n1, n2, n3, n4, nf⟩ := hn7.cells5
          obtain ⟨o0, o1, o2, o3, o4, off⟩ := hB7.cells5
          obtain ⟨r0, r1, r2, r3, r4, rf⟩ := hr7.cells5
          by_cases h0 : er = 0
          · subst h0
            have Hs2 : Hid (sSum zs = sumN y (zs.drop (k + 1))) := by show _ = _; rw [Hs.out, Hd.out, sumN, Hy.out, if_pos rfl]
            go_wp2_with fail
            go_roundg (zs.length - (k + 1))
            case measure => omega
            case rel => exact ⟨k + 1, y, by omega, rfl, rfl, congrArg (Value.int .i64) (by omega), sAdd_chk Hy.out, Hs2.out, hB7.put5, hr7.far5 (by omega) _ _ _ _ _, (row_far5 hg7 (by omega) _ _ _ _ _).out, below_put5 hb7 (by omega) _ _ _ _ _⟩
          · have Hs2 : Hid (sSum zs = (Nm.zero, er)) := by show _ = _; rw [Hs.out, Hd.out, sumN, Hy.out, if_neg h0]
            have h0b : (er != 0) = true := by simpa using h0
            obtain ⟨t0, t1, t2, t3, t4, tf⟩ := (hr7.put5 (a' := .int .i64 0) (b' := .int .i64 0) (c' := .int .i64 0) (d' := .int .i64 0) (e' := .int .i64 0)).cells5
            clear h0
            go_wp2_with fail
            refine bodyPost_ret (v := .tuple #[.agg #[.int .i64 0, .int .i64 0, .int .i64 0, .int .i64 0, .int .i64 0], .int .i64 er]) (by simp [results, Tryz.results11, go_sem, t0, t1, t2, t3, t4]) rfl ⟨Nm.zero, er, rfl, Hs2.out, ?_⟩
            exact below_put5 hb7 (by omega) _ _ _ _ _
      · have he : zs.drop k = [] := List.drop_of_length_le (by omega)
        have Hs2 : Hid (sSum zs = (o, 0)) := by show _ = _; rw [Hs.out, he]; rfl
        clear he
        obtain ⟨t0, t1, t2, t3, t4, tf⟩ := (hrr.put5 (a' := .int .i64 o.p.a) (b' := .int .i64 o.p.b) (c' := .int .i64 o.p.c) (d' := .int .i64 o.p.d) (e' := .int .i64 o.k)).cells5
        go_wp2_with fail
        refine bodyPost_ret (v := .tuple #[.agg #[.int .i64 o.p.a, .int .i64 o.p.b, .int .i64 o.p.c, .int .i64 o.p.d, .int .i64 o.k], .int .i64 0]) (by simp [results, Tryz.results11, go_sem, t0, t1, t2, t3, t4]) rfl ⟨o, 0, rfl, Hs2.out, ?_⟩
        exact below_put5 hbw (by omega) _ _ _ _ _
  · have Hs : Hid (sSum zs = (Nm.zero, n)) := by show _ = _; unfold sSum; rw [Hn.out, if_neg h0]
    have h0b : (n != 0) = true := by simpa using h0
    clear h0 Hn
    go_wp2_with fail
    refine bodyPost_ret (v := .tuple #[.agg #[.int .i64 0, .int .i64 0, .int .i64 0, .int .i64 0, .int .i64 0], .int .i64 n]) (by simp [results, Tryz.results11, go_sem, r0, r1, r2, r3, r4]) rfl ⟨Nm.zero, n, rfl, Hs.out, ?_⟩
    exact below_put5 hbw3 (by omega) _ _ _ _ _
end Go.Proofs.YtepdnjjfhbjcjaaGreatDoor
end
section
namespace Go.Proofs.YtepdnjjfhbjcjaaGreatDoor
open Go.RowKit
def sRoot (k : Int) : Nm × Int := if k < 0 ∨ 60 < k then (Nm.zero, 3) else (⟨Pt.one, k⟩, 0)
set_option linter.unusedSimpArgs false in
set_option maxRecDepth 100000 in
set_option maxHeartbeats 4000000 in
theorem Root_calls (k : Int) (w : World) :
    Calls Tryz.prog 9 #[.int .i64 k] w fun e w' => e = .returned (.tuple #[.agg #[.int .i64 (sRoot k).1.p.a, .int .i64 (sRoot k).1.p.b, .int .i64 (sRoot k).1.p.c, .int .i64 (sRoot k).1.p.d, .int .i64 (sRoot k).1.k], .int .i64 (sRoot k).2]) ∧ Below w.heap.size w w' := by
  by_cases h0 : k < 0
  · have Hv : Hid (sRoot k = (Nm.zero, 3)) := by show _ = _; exact if_pos (.inl h0)
    go_enter Tryz.func9, Tryz.ntmps9
    go_wp2
    exact bodyPost_ret (v := .tuple #[.agg #[.int .i64 0, .int .i64 0, .int .i64 0, .int .i64 0, .int .i64 0], .int .i64 3]) (by simp [results, Tryz.results9, go_sem]) rfl ⟨by rw [Hv.out]; rfl, by first | exact below1 _ _ | exact below_put5 (below1 _ _) (Nat.le_refl _) _ _ _ _ _⟩
  · by_cases h1 : 60 < k
    · have Hv : Hid (sRoot k = (Nm.zero, 3)) := by show _ = _; exact if_pos (.inr h1)
      go_enter Tryz.func9, Tryz.ntmps9
      go_wp2
      exact bodyPost_ret (v := .tuple #[.agg #[.int .i64 0, .int .i64 0, .int .i64 0, .int .i64 0, .int .i64 0], .int .i64 3]) (by simp [results, Tryz.results9, go_sem]) rfl ⟨by rw [Hv.out]; rfl, by first | exact below1 _ _ | exact below_put5 (below1 _ _) (Nat.le_refl _) _ _ _ _ _⟩
    · have Hv : Hid (sRoot k = (⟨Pt.one, k⟩, 0)) := by show _ = _; exact if_neg (by omega)
      go_enter Tryz.func9, Tryz.ntmps9
      go_wp2
      exact bodyPost_ret (v := .tuple #[.agg #[.int .i64 1, .int .i64 0, .int .i64 0, .int .i64 0, .int .i64 k], .int .i64 0]) (by simp [results, Tryz.results9, go_sem]) rfl ⟨by rw [Hv.out]; rfl, by first | exact below1 _ _ | exact below_put5 (below1 _ _) (Nat.le_refl _) _ _ _ _ _⟩
theorem run_copy5_any (w : World) (ty : TypeId) (g n c : Nat) (A : Option Addr) (cap : Nat) (l : List Nm) (cur : Array Value) (hl : l.length = n) (hg : w.heap[g]? = some (.cells cur 23 (0, 0))) (hc : cur.size = n * 5)
    (hsrc : 0 < n → ∃ ad, A = some ad ∧ ∀ (j : Nat) (v : Value), (flatV l)[j]? = some v → w.cell? (ad.add j) = some v) :
    (Builtin.copy_ #[24, 24] ty #[.slice (some ⟨g, 0, none⟩) n c, .slice A n cap]).run Tryz.prog w = .ok (goInt n) (w.setRow g (flatV l).toArray) := by
  have hlen : (flatV l).length = n * 5 := by rw [flatV_len, hl]
  obtain ⟨i, hi, hz0, hz1, hz2⟩ := info_parts (show (Tryz.prog.info? 23).map (fun i => (i.zero, i.size, i.bytes)) = some (some (.agg #[.int .i64 0, .int .i64 0, .int .i64 0, .int .i64 0, .int .i64 0]), 5, 40) from by kernel_rfl)
  have hst := run_storeCells_at Tryz.prog g 0 23 (flatV l) 0 cur w hg (by rw [hlen, hc]; omega) (fun v hv => flatV_one hv)
  have e : cur.toList.take (0 + 0) ++ flatV l ++ cur.toList.drop (0 + 0 + (flatV l).length) = flatV l := by
    rw [hlen, List.drop_of_length_le (by simp [hc])]; simp
  rw [e] at hst
  by_cases hn : 0 < n
  · obtain ⟨ad, rfl, h⟩ := hsrc hn
    have hld := run_loadCells_list (P := Tryz.prog) w ad (flatV l) h
    rw [hlen] at hld
    simp [Builtin.copy_, run_underlying Tryz.underlying24, Builtin.lenOf, Builtin.firstCells, sizeOf, typeInfo, hi, hz1, hld, hst]
  · obtain rfl : n = 0 := by omega
    obtain rfl : l = [] := List.length_eq_zero_iff.1 hl
    have hcur : cur = (flatV []).toArray := by
      have h1 : cur.size = 0 := by omega
      exact Array.eq_empty_of_size_eq_zero h1
    cases A with
    | none =>
      have hst0 : (storeCells (⟨g, 0, none⟩ : Addr) ([] : List Value)).run Tryz.prog w = .ok () (w.setRow g #[]) := hst
      simp [Builtin.copy_, run_underlying Tryz.underlying24, Builtin.lenOf, Builtin.firstCells, sizeOf, typeInfo, hi, hst0, flatV]
    | some ad =>
      have hst0 : (storeCells (⟨g, 0, none⟩ : Addr) ([] : List Value)).run Tryz.prog w = .ok () (w.setRow g #[]) := hst
      have hld0 : (loadCells ad 0).run Tryz.prog w = .ok #[] w := run_loadCells_list (P := Tryz.prog) w ad [] (fun j v h => by simp at h)
      simp [Builtin.copy_, run_underlying Tryz.underlying24, Builtin.lenOf, Builtin.firstCells, sizeOf, typeInfo, hi, hld0, hst0, flatV]
set_option maxRecDepth 100000 in
set_option maxHeartbeats 8000000 in
theorem Sum_calls_any (zs : List Nm) (A : Option Addr) (cap : Nat) (hl : zs.length ≤ 1000) (w : World) (hz : 0 < zs.length → ∃ ad, A = some ad ∧ ∀ (j : Nat) (v : Value), (flatV zs)[j]? = some v → w.cell? (ad.add j) = some v) :
    Calls Tryz.prog 11 #[.slice A zs.length cap] w fun e w' => ∃ (y : Nm) (er : Int), e = .returned (.tuple #[.agg #[.int .i64 y.p.a, .int .i64 y.p.b, .int .i64 y.p.c, .int .i64 y.p.d, .int .i64 y.k], .int .i64 er]) ∧ sSum zs = (y, er) ∧ Below w.heap.size w w' := by
  obtain ⟨i0, hi, hz0, hz1, hz2⟩ := info_parts info23
  have Hz := Lib.hid hz
  clear hz
  have HI := Lib.hid hi
  have H0 := Lib.hid hz0
  have H1 := Lib.hid hz1
  have H2 := Lib.hid hz2
  clear hi hz0 hz1 hz2
  go_enter Tryz.func11, Tryz.ntmps11
  go_wp2_with (at_make; refine wpList_make_full _ rfl _ _ 24 rfl w.heap.size 23 i0 (.agg #[.int .i64 0, .int .i64 0, .int .i64 0, .int .i64 0, .int .i64 0]) 5 Tryz.underlying24 HI.out H0.out H1.out .i64 .i64 _ _ zs.length rfl rfl rfl rfl (by rw [H2.out]; omega) (by unfold maxLen; omega) (by simp) ?_; intro w1 hown hgrow)
  rcases hown.2 with ⟨h, _⟩ | ⟨g, cp, cur, hv, hg, hcur, _, _, hcs, _⟩
  · cases h
  injection hv with hv1 _ hv3
  injection hv1 with hv1
  injection hv1 with hv1 _ _
  subst hv1 hv3
  have hbw1 : Below w.heap.size w w1 := ((below1 w _).grown hgrow (by simp) (by intro k hk; cases hk))
  have hr1 : Blk w1 w.heap.size 23 #[.int .i64 0, .int .i64 0, .int .i64 0, .int .i64 0, .int .i64 0] := (hgrow.block _ (by simp) (by intro e; cases e)).trans (Blk.new w _ _)
  have Hcur := Lib.hid hcur
  have Hcs := Lib.hid hcs
  have hsz1 : w.heap.size + 1 < w1.heap.size := by have := (Array.getElem?_eq_some_iff.1 hcur).1; simpa using this
  clear hcur hcs hown hgrow hg
  have hg2 : w1.heap[w.heap.size + 1]? = some (.cells cur 23 (0, 0)) := by have := Hcur.out; rw [World.size_alloc] at this; exact this
  have hsrc : 0 < zs.length → ∃ ad, A = some ad ∧ ∀ (j : Nat) (v : Value), (flatV zs)[j]? = some v → w1.cell? (ad.add j) = some v := fun hn => by
    obtain ⟨ad, e, h⟩ := Hz.out hn
    exact ⟨ad, e, fun j v hj => (hbw1.cell (World.block_lt_of_cell? w _ (h j v hj))).trans (h j v hj)⟩
  rw [run_copy5_any w1 3 (w.heap.size + 1) zs.length zs.length A cap zs cur rfl hg2 Hcs.out hsrc]
  obtain ⟨w2, e2, hrow2, hr2, hbw2, hsz2⟩ : ∃ w2, w1.setRow (w.heap.size + 1) (flatV zs).toArray = w2 ∧ Hid (w2.heap[w.heap.size + 1]? = some (.cells (flatV zs).toArray 23 (0, 0))) ∧ Blk w2 w.heap.size 23 #[.int .i64 0, .int .i64 0, .int .i64 0, .int .i64 0, .int .i64 0] ∧ Below w.heap.size w w2 ∧ w.heap.size + 1 < w2.heap.size :=
    ⟨_, rfl, setRow_heap w1 _ cur _ _ _ hg2, (setRow_other w1 _ _ _ (by omega)).trans hr1, hbw1.trans ⟨rfl, rfl, rfl, by simp [World.setRow], fun k hk => setRow_other w1 _ k _ (by omega)⟩, by simp [World.setRow]; exact hsz1⟩
  rw [e2]
  clear e2 hg2 hsrc hbw1 hr1 Hcur Hcs hsz1 HI H0 H1 H2 Hz
  obtain ⟨n, hn⟩ : ∃ n : Int, chks zs = n := ⟨_, rfl⟩
  have Hn := Lib.hid hn
  clear hn
  go_wp2_with fail
  refine (checks_calls zs _ _ hl _ hsz2 (rowAt_of hrow2.out)).mono ?_
  rintro e w3 ⟨rfl, hb⟩
  rw [Hn.out]
  have hr3 := hr2.below hb hr2.lt
  have hrow3 : Hid (w3.heap[w.heap.size + 1]? = some (.cells (flatV zs).toArray 23 (0, 0))) := (hb.block _ hsz2).trans hrow2.out
  have hbw3 := bt hb hbw2 hbw2.size
  have hsz3 : w.heap.size + 1 < w3.heap.size := Nat.lt_of_lt_of_le hsz2 hb.size
  clear hb hr2 hrow2 hbw2 hsz2
  obtain ⟨r0, r1, r2, r3, r4, rf⟩ := hr3.cells5
  by_cases h0 : n = 0
  · subst h0
    go_upto_block 8 with fail
    have hc := chks_at Hn.out
    obtain ⟨B, w4, e3, e4, hB, hr4, hrow4, hbw4, hB1⟩ : ∃ B w4, w3.heap.size = B ∧ w3.alloc (.cells #[.int .i64 0, .int .i64 0, .int .i64 0, .int .i64 0, .int .i64 0] 23) = w4 ∧ Blk w4 B 23 #[.int .i64 Nm.zero.p.a, .int .i64 Nm.zero.p.b, .int .i64 Nm.zero.p.c, .int .i64 Nm.zero.p.d, .int .i64 Nm.zero.k] ∧ Blk w4 w.heap.size 23 #[.int .i64 0, .int .i64 0, .int .i64 0, .int .i64 0, .int .i64 0] ∧ Hid (w4.heap[w.heap.size + 1]? = some (.cells (flatV zs).toArray 23 (0, 0))) ∧ Below w.heap.size w w4 ∧ w.heap.size + 1 < B :=
      ⟨_, _, rfl, rfl, Blk.new _ _ _, hr3.alloc _, (Below.heap_alloc w3 _ _ hsz3).trans hrow3.out, hbw3.alloc hbw3.size _, hsz3⟩
    rw [e3, e4]
    have Hc := Lib.hid hc
    have Hs0 : Hid (sSum zs = sumN Nm.zero zs) := by show _ = _; unfold sSum; rw [if_pos Hn.out]
    clear e3 e4 hr3 hrow3 hbw3 hsz3 r0 r1 r2 r3 r4 rf hc Hn
    go_loopg [3, 8, 9, 10, 26] zs.length (fun g s3 _ _ _ s26 wr => ∃ (k : Nat) (o : Nm), k ≤ zs.length ∧ g = zs.length - k ∧ s3 = .int .i64 0 ∧ s26 = .int .i64 k ∧ o.chk = 0 ∧ sSum zs = sumN o (zs.drop k) ∧ Blk wr B 23 #[.int .i64 o.p.a, .int .i64 o.p.b, .int .i64 o.p.c, .int .i64 o.p.d, .int .i64 o.k] ∧ Blk wr w.heap.size 23 #[.int .i64 0, .int .i64 0, .int .i64 0, .int .i64 0, .int .i64 0] ∧ wr.heap[w.heap.size + 1]? = some (.cells (flatV zs).toArray 23 (0, 0)) ∧ Below w.heap.size w wr)
    case atStart => exact ⟨0, Nm.zero, by omega, rfl, rfl, rfl, by decide, Hs0.out, hB, hr4, hrow4.out, hbw4⟩
    case round =>
      obtain ⟨k, o, hk, rfl, rfl, rfl, hoc, hs, hBo, hrr, hrow, hbw⟩ := hrel
      have Hs := Lib.hid hs
      have Hrow := Lib.hid hrow
      have Hoc := Lib.hid hoc
      clear hs hrow hoc hB hr4 hbw4 hrow4
      have hlB := hBo.lt
      obtain ⟨o0, o1, o2, o3, o4, off⟩ := hBo.cells5
      obtain ⟨r0, r1, r2, r3, r4, rf⟩ := hrr.cells5
      by_cases hlt : k < zs.length
      · obtain ⟨x, Hd, hx⟩ : ∃ x, Hid (zs.drop k = x :: zs.drop (k + 1)) ∧ zs[k]? = some x :=
          ⟨zs[k], by show zs.drop k = _; rw [List.drop_eq_getElem_cons hlt], List.getElem?_eq_getElem hlt⟩
        have Hxc := Lib.hid (Hc.out k x hx)
        obtain ⟨c0, c1, c2, c3, c4⟩ := rowAt_of Hrow.out k x hx
        clear hx
        go_upto_region 10 with fail
        obtain ⟨P, w5, e5, e6, hx5, hy5, hr5, hrow5, hbw5, hBP⟩ : ∃ P w5, wr.heap.size = P ∧ wr.alloc (.cells #[.int .i64 x.p.a, .int .i64 x.p.b, .int .i64 x.p.c, .int .i64 x.p.d, .int .i64 x.k] 23) = w5 ∧ Blk w5 B 23 #[.int .i64 o.p.a, .int .i64 o.p.b, .int .i64 o.p.c, .int .i64 o.p.d, .int .i64 o.k] ∧ Blk w5 P 23 #[.int .i64 x.p.a, .int .i64 x.p.b, .int .i64 x.p.c, .int .i64 x.p.d, .int .i64 x.k] ∧ Blk w5 w.heap.size 23 #[.int .i64 0, .int .i64 0, .int .i64 0, .int .i64 0, .int .i64 0] ∧ Hid (w5.heap[w.heap.size + 1]? = some (.cells (flatV zs).toArray 23 (0, 0))) ∧ Below w.heap.size w w5 ∧ B < P :=
          ⟨_, _, rfl, rfl, hBo.alloc _, Blk.new _ _ _, hrr.alloc _, (Below.heap_alloc wr _ _ (by omega)).trans Hrow.out, hbw.alloc hbw.size _, hlB⟩
        rw [e5, e6]
        have hx1 := hx5.drew
        have hy1 := hy5.drew
        have hr1 := hr5.drew
        have hrow1 : Hid (w5.drew.heap[w.heap.size + 1]? = some (.cells (flatV zs).toArray 23 (0, 0))) := hrow5
        have hbw1 := hbw5.drew
        have HA := Lib.hid (fun W => nadd_calls o x Hoc.out Hxc.out W)
        have hz1 := hy5.lt
        clear e5 e6 hr5 hrow5 hbw5 hBo hrr hbw hlB o0 o1 o2 o3 o4 off r0 r1 r2 r3 r4 rf c0 c1 c2 c3 c4 Hrow
        go_region_held3 (fun w' => w'.cell? ⟨B, 0, none⟩ = some (.int .i64 o.p.a) ∧ w'.cell? ⟨B, 1, none⟩ = some (.int .i64 o.p.b) ∧ w'.cell? ⟨B, 2, none⟩ = some (.int .i64 o.p.c) ∧ w'.cell? ⟨B, 3, none⟩ = some (.int .i64 o.p.d) ∧ w'.cell? ⟨B, 4, none⟩ = some (.int .i64 o.k) ∧ w'.cell? ⟨P, 0, none⟩ = some (.int .i64 x.p.a) ∧ w'.cell? ⟨P, 1, none⟩ = some (.int .i64 x.p.b) ∧ w'.cell? ⟨P, 2, none⟩ = some (.int .i64 x.p.c) ∧ w'.cell? ⟨P, 3, none⟩ = some (.int .i64 x.p.d) ∧ w'.cell? ⟨P, 4, none⟩ = some (.int .i64 x.k)) (((with_reducible refine five_five (t := 23) (t' := 23) ?_ ?_) <;> (repeat (first | (with_reducible exact hx1) | (with_reducible exact hy1) | (with_reducible exact hx5) | (with_reducible exact hy5) | ((with_reducible refine Blk.far' ?_ _ ?_); (focus ((try dsimp only); omega))) | (with_reducible refine Blk.alloc ?_ _) | (with_reducible refine Blk.drew ?_)))))
          (first
            | (go_at_call 33; (with_reducible refine (work_calls _ _ _ _ _ _).mono ?_); rintro e w6 ⟨rfl, hb1⟩; (first | (have hn1 := hn1.step hb1 (⟨by first | exact .inl rfl | exact .inr ⟨_, rfl⟩, rfl, rfl, rfl⟩); obtain ⟨n0, n1, n2, n3, n4, nf⟩ := hn1.cells5) | (have hn1 := Blk.fresh hb1 rfl; obtain ⟨n0, n1, n2, n3, n4, nf⟩ := hn1.cells5) | skip); have hx1 := hx1.step hb1 (⟨by first | exact .inl rfl | exact .inr ⟨_, rfl⟩, rfl, rfl, rfl⟩); have hy1 := hy1.step hb1 (⟨by first | exact .inl rfl | exact .inr ⟨_, rfl⟩, rfl, rfl, rfl⟩); have hr1 := hr1.step hb1 (⟨by first | exact .inl rfl | exact .inr ⟨_, rfl⟩, rfl, rfl, rfl⟩); have hrow1 := row_step hrow1 hb1 (⟨by first | exact .inl rfl | exact .inr ⟨_, rfl⟩, rfl, rfl, rfl⟩); have hbw1 := below_step hbw1 hb1 (⟨by first | exact .inl rfl | exact .inr ⟨_, rfl⟩, rfl, rfl, rfl⟩); clear hb1; have hz1 := hy1.lt)
            | (go_at_call 34; (with_reducible refine (HA.out _).mono ?_); rintro e w6 ⟨y, er, rfl, hy, hb1⟩; have Hy := Lib.hid hy; clear hy; (first | (have hn1 := hn1.step hb1 (⟨by first | exact .inl rfl | exact .inr ⟨_, rfl⟩, rfl, rfl, rfl⟩); obtain ⟨n0, n1, n2, n3, n4, nf⟩ := hn1.cells5) | (have hn1 := Blk.fresh hb1 rfl; obtain ⟨n0, n1, n2, n3, n4, nf⟩ := hn1.cells5) | skip); have hx1 := hx1.step hb1 (⟨by first | exact .inl rfl | exact .inr ⟨_, rfl⟩, rfl, rfl, rfl⟩); have hy1 := hy1.step hb1 (⟨by first | exact .inl rfl | exact .inr ⟨_, rfl⟩, rfl, rfl, rfl⟩); have hr1 := hr1.step hb1 (⟨by first | exact .inl rfl | exact .inr ⟨_, rfl⟩, rfl, rfl, rfl⟩); have hrow1 := row_step hrow1 hb1 (⟨by first | exact .inl rfl | exact .inr ⟨_, rfl⟩, rfl, rfl, rfl⟩); have hbw1 := below_step hbw1 hb1 (⟨by first | exact .inl rfl | exact .inr ⟨_, rfl⟩, rfl, rfl, rfl⟩); clear hb1; have hz1 := hy1.lt))
        all_goals
          have hws : w.heap.size ≤ P := by omega
          first
            | (obtain ⟨W7, e7, hn7, hB7, hr7, hg7, hb7, hl7⟩ := behind1 hn1 hx1 hr1 hrow1 hbw1 (P := P) (by omega) hBP (by omega) (by omega) hws y; rw [e7]; clear e7)
            | (obtain ⟨W7, e7, hn7, hB7, hr7, hg7, hb7, hl7⟩ := behind2 hx1 hr1 hrow1 hbw1 hz1 y; rw [e7]; clear e7)
          try clear n0 n1 n2 n3 n4 nf hn1
          clear hx5 hy5 hx1 hy1 hr1 hrow1 hbw1 HA
          have q1 := Nat.ne_of_lt (Nat.lt_trans hBP hl7)
          have q2 := Ne.symm q1
          obtain ⟨n0, n1, n2, n3, n4, nf⟩ := hn7.cells5
          obtain ⟨o0, o1, o2, o3, o4, off⟩ := hB7.cells5
          obtain ⟨r0, r1, r2, r3, r4, rf⟩ := hr7.cells5
          by_cases h0 : er = 0
          · subst h0
            have Hs2 : Hid (sSum zs = sumN y (zs.drop (k + 1))) := by show _ = _; rw [Hs.out, Hd.out, sumN, Hy.out, if_pos rfl]
            go_wp2_with fail
            go_roundg (zs.length - (k + 1))
            case measure => omega
            case rel => exact ⟨k + 1, y, by omega, rfl, rfl, congrArg (Value.int .i64) (by omega), sAdd_chk Hy.out, Hs2.out, hB7.put5, hr7.far5 (by omega) _ _ _ _ _, (row_far5 hg7 (by omega) _ _ _ _ _).out, below_put5 hb7 (by omega) _ _ _ _ _⟩
          · have Hs2 : Hid (sSum zs = (Nm.zero, er)) := by show _ = _; rw [Hs.out, Hd.out, sumN, Hy.out, if_neg h0]
            have h0b : (er != 0) = true := by simpa using h0
            obtain ⟨t0, t1, t2, t3, t4, tf⟩ := (hr7.put5 (a' := .int .i64 0) (b' := .int .i64 0) (c' := .int .i64 0) (d' := .int .i64 0) (e' := .int .i64 0)).cells5
            clear h0
            go_wp2_with fail
            refine bodyPost_ret (v := .tuple #[.agg #[.int .i64 0, .int .i64 0, .int .i64 0, .int .i64 0, .int .i64 0], .int .i64 er]) (by simp [results, Tryz.results11, go_sem, t0, t1, t2, t3, t4]) rfl ⟨Nm.zero, er, rfl, Hs2.out, ?_⟩
            exact below_put5 hb7 (by omega) _ _ _ _ _
      · have he : zs.drop k = [] := List.drop_of_length_le (by omega)
        have Hs2 : Hid (sSum zs = (o, 0)) := by show _ = _; rw [Hs.out, he]; rfl
        clear he
        obtain ⟨t0, t1, t2, t3, t4, tf⟩ := (hrr.put5 (a' := .int .i64 o.p.a) (b' := .int .i64 o.p.b) (c' := .int .i64 o.p.c) (d' := .int .i64 o.p.d) (e' := .int .i64 o.k)).cells5
        go_wp2_with fail
        refine bodyPost_ret (v := .tuple #[.agg #[.int .i64 o.p.a, .int .i64 o.p.b, .int .i64 o.p.c, .int .i64 o.p.d, .int .i64 o.k], .int .i64 0]) (by simp [results, Tryz.results11, go_sem, t0, t1, t2, t3, t4]) rfl ⟨o, 0, rfl, Hs2.out, ?_⟩
        exact below_put5 hbw (by omega) _ _ _ _ _
  · have Hs : Hid (sSum zs = (Nm.zero, n)) := by show _ = _; unfold sSum; rw [Hn.out, if_neg h0]
    have h0b : (n != 0) = true := by simpa using h0
    clear h0 Hn
    go_wp2_with fail
    refine bodyPost_ret (v := .tuple #[.agg #[.int .i64 0, .int .i64 0, .int .i64 0, .int .i64 0, .int .i64 0], .int .i64 n]) (by simp [results, Tryz.results11, go_sem, r0, r1, r2, r3, r4]) rfl ⟨Nm.zero, n, rfl, Hs.out, ?_⟩
    exact below_put5 hbw3 (by omega) _ _ _ _ _
end Go.Proofs.YtepdnjjfhbjcjaaGreatDoor
end
