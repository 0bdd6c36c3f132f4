import Derived.RangeFuncNested
import Derived.RangeFuncBound
import Derived.RangeFuncCalls
import Derived.RangeFuncLeaves
import Derived.Shelf.Abstract
import Derived.Shelf.RegionOpen
import Derived.WalkKit
import Derived.OwnWalkIn
import Derived.TacticsInMore
import Derived.LoopNIn
import Derived.LoopIn
import Derived.RangeFuncBox
import Derived.ArgAppend
import Derived.Maps.AppendAt
import Derived.BigQuiet
import Derived.Deep.QuietTactic
import Derived.Maps.Own
import Derived.StringKeys
import Derived.Maps.OwnOps
import Derived.Maps.Views
import Derived.Deep.RegionWith
import Derived.Lib.Atoi
import Derived.Lib.AtoiErrMem
import Derived.Lib.LaidTab
import Derived.Test.YtonnegkpjmhomaaGreatDoorDLaid1
import Derived.Test.YtonnegkpjmhomaaGreatDoorDLaid6
set_option linter.all false
section
namespace Go.Proofs.YtonnegkpjmhomaaGreatDoor
open Go.RowKit Go.Shelf
attribute [local go_sem] Oper.semAt_some
theorem below_grown {w w' : World} (h : Below w.heap.size w w') : w.grownBy w' none :=
  ⟨h.os, h.tape, h.output, h.size, fun k hk _ => h.block k hk⟩
abbrev encP (p : Part) : Array Value := #[partV p]
def KpP (Bs : Nat) (W W' : World) : Prop := (∀ cs, Blk W Bs 9 cs → Blk W' Bs 9 cs) ∧ ∀ k cs, Blk W k 91 cs → cs.size = 4 → Blk W' k 91 cs
theorem kpP_t {Bs : Nat} {A B C : World} (h : KpP Bs A B) (k : KpP Bs B C) : KpP Bs A C :=
  ⟨fun cs hj => k.1 cs (h.1 cs hj), fun j cs hj hs => k.2 j cs (h.2 j cs hj hs) hs⟩
theorem Blk.put {W : World} {l k : Nat} {o o' : Obj} {t : TypeId} {cs : Array Value} (h : W.heap[l]? = some o) (hc : o.isCells = false) (hk : Blk W k t cs) : Blk (W.putObj l o') k t cs :=
  (World.putObj_heap_other (fun e => by subst e; unfold Blk at hk; rw [h] at hk; cases hk; cases hc)).trans hk
theorem kpP_b {Bs : Nat} {w : World} (W : World) (l : Nat) (o o' : Obj) (_ : w.heap.size ≤ l) (h : W.heap[l]? = some o) (hc : o.isCells = false) (_ : o.isWalk = false) : KpP Bs W (W.putObj l o') :=
  ⟨fun _ hk => Blk.put h hc hk, fun _ _ hk _ => Blk.put h hc hk⟩
theorem kpP_alloc {Bs : Nat} (W : World) (o : Obj) : KpP Bs W (W.alloc o) := ⟨fun _ h => h.alloc _, fun _ _ h _ => h.alloc _⟩
theorem left_next {l : List UInt8} {pos : Nat} {q : List Part} (h : Left l pos q) :
    (pos + lay false (l.drop pos) = l.length ∧ q = []) ∨
    (pos + lay false (l.drop pos) < l.length ∧ ∃ q', q = nextP (pos + lay false (l.drop pos)) (l.drop (pos + lay false (l.drop pos))) :: q' ∧
      ((nextP (pos + lay false (l.drop pos)) (l.drop (pos + lay false (l.drop pos)))).kind = 0 → q' = []) ∧
      ((nextP (pos + lay false (l.drop pos)) (l.drop (pos + lay false (l.drop pos)))).kind ≠ 0 → Left l (pos + lay false (l.drop pos) + (nextP (pos + lay false (l.drop pos)) (l.drop (pos + lay false (l.drop pos)))).text.length) q') ∧
      0 < (nextP (pos + lay false (l.drop pos)) (l.drop (pos + lay false (l.drop pos)))).text.length ∧
      pos + lay false (l.drop pos) + (nextP (pos + lay false (l.drop pos)) (l.drop (pos + lay false (l.drop pos)))).text.length ≤ l.length) := by
  obtain ⟨f, hf, hp, rfl⟩ := h
  obtain ⟨g, rfl⟩ : ∃ g, f = g + 1 := ⟨f - 1, by omega⟩
  have hle := lay_le false (l.drop pos)
  have hlen : (l.drop pos).length = l.length - pos := List.length_drop
  have hdd : l.drop (pos + lay false (l.drop pos)) = (l.drop pos).drop (lay false (l.drop pos)) := by rw [List.drop_drop]
  unfold partsN
  rw [hdd]
  cases hc : (l.drop pos).drop (lay false (l.drop pos)) with
  | nil =>
    have hz : (l.drop pos).length - lay false (l.drop pos) = 0 := by rw [← List.length_drop, hc]; rfl
    exact .inl ⟨by omega, rfl⟩
  | cons c r =>
    have hz : (l.drop pos).length - lay false (l.drop pos) = r.length + 1 := by rw [← List.length_drop, hc]; rfl
    have hat := nextP_at (pos + lay false (l.drop pos)) (c :: r)
    have htl := nextP_le (pos + lay false (l.drop pos)) (c :: r)
    have htp := nextP_pos (pos + lay false (l.drop pos)) c r
    simp only []
    generalize nextP (pos + lay false (l.drop pos)) (c :: r) = p at *
    simp only [List.length_cons] at htl
    refine .inr ⟨by omega, if p.kind = 0 then [] else partsN g (p.at_ + p.text.length) ((c :: r).drop p.text.length), by split <;> rfl, fun h => by rw [if_pos h], fun h => ?_, htp, by omega⟩
    rw [if_neg h, ← hc, hat, List.drop_drop, List.drop_drop, Nat.add_assoc]
    refine ⟨g, ?_, by omega, rfl⟩
    rw [List.length_drop]; omega
set_option maxHeartbeats 400000 in
theorem parts_calls (l : List UInt8) (w : World) : Calls Tryz.prog 50 #[.string (bs l)] w fun e w' => e = .returned (.func (.func 95) #[] #[.pointer (some ⟨w.heap.size, 0, none⟩)]) ∧ w' = w.alloc (.cells #[.string (bs l)] 9) := by
  go_enter Tryz.func50, Tryz.ntmps50
  go_wp2
  go_ret
  exact ⟨rfl, rfl⟩
set_option maxRecDepth 100000 in
set_option maxHeartbeats 4000000 in
theorem parts1_stops (n : Nat) (hn : 1 ≤ n) (l : List UInt8) (hl : l.length ≤ 1000000) (Bs : Nat) (w : World) (hs : Blk w Bs 9 #[.string (bs l)]) :
    SeqStopsK Fence.wide n Tryz.prog 95 #[.pointer (some ⟨Bs, 0, none⟩)] encP (KpP Bs) (fun xs => xs = partsP l) (fun pre => pre <+: partsP l) (partsP l).length w := fun li J Jx W hW hJ _ hY h0 => by
  have hs0 := hs.below hW hs.lt
  have c0 := hs0.one
  have hsz : (bs l).size = l.length := bs_size l
  have HL := Lib.hid (layout_calls l hl)
  refine callsIn_of_wp Tryz.func95 rfl trivial ?_
  simp only [Tryz.ntmps95, List.size_toArray, List.length_cons, List.length_nil, Nat.reduceAdd, Nat.reduceSub, Array.replicate_succ, Array.replicate_zero, List.push_toArray, List.append_toArray, List.nil_append, List.cons_append]
  gi_wp2
  refine ⟨trivial, callsIn_wide.2 ((HL.out 0 (by omega) _).mono ?_)⟩
  rintro e w1 ⟨rfl, hb1⟩
  have hs1 := hs0.below hb1 hs0.lt
  have hJ1 : J [] w1 := hJ _ _ _ none h0 (below_grown hb1) (fun r e => by cases e)
  clear h0 hs0 c0
  gi_wp2
  gi_loopw [3] (fun i wr => ∃ (pre q : List Part) (pos : Nat), partsP l = pre ++ q ∧ Left l pos q ∧ i = .int .i64 ((pos + lay false (l.drop pos) : Nat) : Int) ∧ Blk wr Bs 9 #[.string (bs l)] ∧ J pre wr) (fun i _ => l.length - (intOf i).toNat)
  case atStart => exact ⟨[], partsP l, 0, rfl, left_start l, by simp, hs1, hJ1⟩
  case round =>
    clear hs1 hJ1 hb1
    obtain ⟨pre, q, pos, hpre, hleft, rfl, hs1, hJs⟩ := hrel
    have c1 := hs1.one
    rcases left_next hleft with ⟨hend, rfl⟩ | ⟨hlt, q', rfl, hk0, hk1, htp, htl⟩
    · have Hp := Lib.hid hpre
      rw [hend]
      clear hleft hpre hend
      gi_wp2
      go_end0
      exact ⟨⟨_, rfl⟩, .inl ⟨pre, by rw [Hp.out, List.append_nil], hJs⟩⟩
    · have HN := Lib.hid (next_calls l hl _ hlt)
      have Hp := Lib.hid hpre
      have Hk0 := Lib.hid hk0
      have Hk1 := Lib.hid hk1
      clear hleft hpre hk0 hk1
      generalize pos + lay false (l.drop pos) = at_ at *
      generalize nextP at_ (l.drop at_) = p at *
      gi_wp2
      refine ⟨trivial, callsIn_wide.2 ((HN.out _).mono ?_)⟩
      rintro e w2 ⟨he, hb2⟩
      unfold partV at he
      subst he
      have hs2 := (hs1.below hb2 hs1.lt).alloc (.cells #[.int .i64 p.at_, .int .i64 p.kind, .string (bs p.text), .int .i64 p.wrong] 91)
      have hJ2 : J pre (w2.alloc (.cells #[.int .i64 p.at_, .int .i64 p.kind, .string (bs p.text), .int .i64 p.wrong] 91)) := hJ _ _ _ none (hJ _ _ _ none hJs (below_grown hb2) (fun r e => by cases e)) (World.grownBy_alloc _ _ none) (fun r e => by cases e)
      have hq2 := Blk.new w2 91 #[.int .i64 p.at_, .int .i64 p.kind, .string (bs p.text), .int .i64 p.wrong]
      have hlen : pre.length < (partsP l).length := by rw [Hp.out]; simp
      obtain ⟨fn, tmps, assign, body, hy, hR⟩ := hY pre p _ hJ2 hlen
      have hy : (Instr.yield li #[.agg #[.int .i64 p.at_, .int .i64 p.kind, .string (bs p.text), .int .i64 p.wrong]]).run Tryz.prog (w2.alloc (.cells #[.int .i64 p.at_, .int .i64 p.kind, .string (bs p.text), .int .i64 p.wrong] 91)) = .ok (.round li fn tmps assign body) (w2.alloc (.cells #[.int .i64 p.at_, .int .i64 p.kind, .string (bs p.text), .int .i64 p.wrong] 91)) := hy
      clear hs1 c1 hlen hJ2 hb2
      gi_wp2
      refine hR.mono ?_
      rintro e W3 (⟨rfl, hJ3, hk3⟩ | ⟨rfl, hJx3⟩)
      · have hq3 := hk3.2 _ _ hq2 rfl
        have hs3 := hk3.1 _ hs2
        obtain ⟨q0, q1, q2, q3, qf⟩ := hq3.cells4
        have c3 := hs3.one
        have hzt : (bs p.text).size = p.text.length := bs_size p.text
        clear hq2 hs2 hk3
        by_cases hk : p.kind = 0
        · have hkb : ((p.kind : Int) == 0) = true := by rw [hk]; rfl
          have Hq := Lib.hid (Hk0.out hk)
          clear hk
          gi_wp2
          refine bodyPost_ret (results_none rfl _ _ _) rfl ?_
          exact ⟨⟨_, rfl⟩, .inl ⟨pre ++ [p], by rw [Hp.out, Hq.out], hJ3⟩⟩
        · have hkb : ((p.kind : Int) == 0) = false := by rw [beq_eq_false_iff_ne]; omega
          have Hl := Lib.hid (Hk1.out hk)
          clear hk
          gi_wp2
          refine ⟨trivial, callsIn_wide.2 ((HL.out (at_ + p.text.length) (by omega) _).mono ?_)⟩
          rintro e w4 ⟨rfl, hb4⟩
          have hs4 := hs3.below hb4 hs3.lt
          have hJ4 : J (pre ++ [p]) w4 := hJ _ _ _ none hJ3 (below_grown hb4) (fun r e => by cases e)
          gi_wp2
          go_roundw
          case rel => exact ⟨pre ++ [p], q', at_ + p.text.length, by rw [Hp.out]; simp, Hl.out, rfl, hs4, hJ4⟩
          case measure => simp [intOf]; omega
      · gi_wp2
        refine bodyPost_ret (results_none rfl _ _ _) rfl ?_
        exact ⟨⟨_, rfl⟩, .inr ⟨pre ++ [p], ⟨q', by rw [Hp.out]; simp⟩, hJx3⟩⟩
end Go.Proofs.YtonnegkpjmhomaaGreatDoor
end
section
namespace Go.Proofs.YtonnegkpjmhomaaGreatDoor
open Go.RowKit Go.Shelf
theorem own_base {w : World} {b b' : Nat} {e : TypeId} {size n : Nat} {v : Value} {xs : List Value} (h : w.ownsRow b e size v n xs) (hb : b' ≤ b) : w.ownsRow b' e size v n xs := by
  refine ⟨h.1, ?_⟩
  rcases h.2 with hn | ⟨g, cap, cur, rfl, hbg, rest⟩
  · exact .inl hn
  · exact .inr ⟨g, cap, cur, rfl, Nat.le_trans hb hbg, rest⟩
theorem own_form {w : World} {b : Nat} {e : TypeId} {size n : Nat} {v : Value} {xs : List Value} (h : w.ownsRow b e size v n xs) : ∃ A c, v = .slice A n c := by
  rcases h.2 with ⟨rfl, rfl⟩ | ⟨g, cap, cur, rfl, _⟩
  · exact ⟨none, 0, rfl⟩
  · exact ⟨_, cap, rfl⟩
theorem run_append_one {P : Program} (w : World) (base : Nat) (t ty e : TypeId) (i : TypeInfo) (z : Value) (size bytes : Nat) (ht : P.underlying t = some (.slice e)) (hi : P.info? e = some i) (hz : i.zero = some z)
    (hsize : i.size = size) (hby : i.bytes = bytes) (hzs : z.cells.size = size) (hsz : 0 < size) (v : Value) (n : Nat) (xs : List Value) (hown : w.ownsRow base e size v n xs)
    (a : Addr) (m c : Nat) (news : List Value) (hl : news.length = m * size) (hnews : ∀ j u, news[j]? = some u → w.cell? (a.add j) = some u) (h1 : ∀ u ∈ news, u.oneCell' = true)
    (h63 : n + m ≤ maxLen) (hbytes : (n + m) * bytes ≤ 140737488355328) (hbase : base ≤ w.heap.size) :
    ∃ v' w' row, (Builtin.append_ #[t, t] ty #[v, .slice (some a) m c]).run P w = .ok v' w' ∧ w'.ownsRow base e size v' (n + m) (xs ++ news) ∧ w.grownBy w' row ∧
      (row = none ∨ ∃ g cap cur, row = some g ∧ v = .slice (some ⟨g, 0, none⟩) n cap ∧ n + m ≤ cap ∧ w.heap[g]? = some (.cells cur e (0, 0)) ∧ cur.size = cap * size) := by
  have hown0 := hown
  rcases hown.2 with ⟨rfl, rfl⟩ | ⟨g, cap, cur, rfl, hbg, hgg, hnc, hcm, hcs, htk⟩
  · obtain ⟨v', w', h2, h3, h4, _⟩ := run_append_own w base t ty e i z size bytes ht hi hz hsize hby hzs hsz _ _ xs hown a m c news hl hnews h1 h63 hbytes hbase
    exact ⟨v', w', none, h2, h3, h4, .inl rfl⟩
  · by_cases hr : n + m ≤ cap
    · obtain ⟨v', w', h2, h3, h4, _⟩ := run_append_own w base t ty e i z size bytes ht hi hz hsize hby hzs hsz _ _ xs hown0 a m c news hl hnews h1 h63 hbytes hbase
      exact ⟨v', w', some g, h2, h3, h4, .inr ⟨g, cap, cur, rfl, rfl, hr, hgg, hcs⟩⟩
    · obtain ⟨v', w', h2, h3, h4⟩ := run_append_arg_grows (P := P) w t ty e i z size bytes ht hi hz hsize hby hzs hsz ⟨g, 0, none⟩ n cap xs hown0.1 (fun j u hj => hown0.cells (g := g) rfl j u hj) a m c news hl hnews (by omega) h63 hbytes
      exact ⟨v', w', none, h2, own_base h3 hbase, h4, .inl rfl⟩
theorem wpListIn_append_one {F : Fence} {n : Nat} {P : Program} (w : World) {ops : Array Oper} {rest : List Oper} {o : Oper} {a : Act} {Q : Exit → Act → World → Prop}
    (hg : o.guard = none) (s x : Operand) (t : TypeId) (hop : o.op = Op.call { callee := Callee.builtin Builtin.append, args := #[s, x], argTypes := #[t, t] })
    (base : Nat) (e : TypeId) (i : TypeInfo) (z : Value) (size bytes : Nat) (h1 : P.underlying t = some (.slice e)) (h2 : P.info? e = some i) (h3 : i.zero = some z) (h4 : i.size = size) (h5 : i.bytes = bytes) (h6 : z.cells.size = size) (h7 : 0 < size)
    (v : Value) (k : Nat) (xs : List Value) (hs : a.eval s = v) (hown : w.ownsRow base e size v k xs) (ad : Addr) (m c : Nat) (news : List Value) (hx : a.eval x = .slice (some ad) m c) (hn : news.length = m * size)
    (hc : ∀ j u, news[j]? = some u → w.cell? (ad.add j) = some u) (h1c : ∀ u ∈ news, u.oneCell' = true) (b1 : k + m ≤ maxLen) (b2 : (k + m) * bytes ≤ 140737488355328) (b3 : base ≤ w.heap.size)
    (hK : ∀ v' w' row, w'.ownsRow base e size v' (k + m) (xs ++ news) → w.grownBy w' row → (row = none ∨ ∃ g cap cur, row = some g ∧ v = .slice (some ⟨g, 0, none⟩) k cap ∧ k + m ≤ cap ∧ w.heap[g]? = some (.cells cur e (0, 0)) ∧ cur.size = cap * size) →
      wpListIn F n P ops Q rest (a.put o.dst v') w') :
    wpListIn F n P ops Q (o :: rest) a w := by
  refine wpListIn_plain hg fun K hK' => ?_
  obtain ⟨v', w', row, hrun, r1, r2, r3⟩ := run_append_one (P := P) w base t o.type e i z size bytes h1 h2 h3 h4 h5 h6 h7 v k xs hown ad m c news hn hc h1c b1 b2 b3
  unfold Oper.wpIn
  refine ⟨?_, ?_⟩
  · simp [Oper.about, hop, resolve, Target.leads, Sem.run_pure]
  · rw [Oper.semAt_plain F _ _ (by rw [hop]; intro c hc'; cases hc')]
    simp [execOp, hop, resolve, invoke, builtin, hs, hx, hrun, Result.andThen]
    exact hK' _ _ (hK v' w' row r1 r2 r3)
theorem row_new (w : World) (t : TypeId) (cs : Array Value) : ∀ j u, cs.toList[j]? = some u → (w.alloc (.cells cs t)).cell? ((⟨w.heap.size, 0, none⟩ : Addr).add j) = some u := fun j u h => by
  have hadd : (⟨w.heap.size, 0, none⟩ : Addr).add j = ⟨w.heap.size, j, none⟩ := by unfold Addr.add; split <;> simp_all
  rw [hadd, (Blk.new w t cs).cell]
  simpa using h
attribute [local go_sem] Oper.semAt_some
def partC (p : Part) : List Value := [.int .i64 p.at_, .int .i64 p.kind, .string (bs p.text), .int .i64 p.wrong]
def partsC (ps : List Part) : List Value := ps.flatMap partC
theorem partsC_snoc (ps : List Part) (p : Part) : partsC (ps ++ [p]) = partsC ps ++ partC p := by simp [partsC]
theorem infoPart : (Tryz.prog.info? 91).map (fun i => (i.zero, i.size, i.bytes)) = some (some (.agg #[.int .i64 0, .int .i64 0, .string ⟨#[]⟩, .int .i64 0]), 4, 40) := by kernel_rfl
theorem blk_own {β : Type} (B : Nat) (t : TypeId) (cs : Array Value) : Own (fun (_ : β) W => Blk W B t cs) := fun s X Y row hs hg hrow =>
  (hg.block B hs.lt (fun e' => by obtain ⟨_, ho, hc⟩ := hrow B e'.symm; rw [show X.heap[B]? = _ from hs] at ho; cases ho; cases hc)).trans hs
theorem own_own {β : Type} (base : Nat) (e : TypeId) (size n : Nat) (v : Value) (xs : List Value) : Own (fun (_ : β) W => W.ownsRow base e size v n xs) := fun s X Y row hs hg hrow => by
  refine hs.kept hg ?_
  rcases hs.2 with ⟨rfl, _⟩ | ⟨g, cap, cur, rfl, _, hgg, _⟩
  · exact .inl rfl
  · refine .inr fun e' => ?_
    obtain ⟨o, ho, hc⟩ := hrow g (by simpa [Value.ownBlock] using e'.symm)
    rw [hgg] at ho; cases ho; cases hc
theorem app_row {n₀ B m cap' g' size : Nat} {T E : TypeId} {W w1 : World} {v : Value} {row : Option Nat} {xs ys : List Value} {tmp : Obj} (hT : T ≠ E) (hsz : 0 < size) (hv : Blk W B T #[v]) (hn₀ : n₀ ≤ W.heap.size) (hBn : n₀ ≤ B) (hrow : W.ownsRow n₀ E size v m xs) (hnil : m = 0 → v = .slice none 0 0)
    (hown' : w1.ownsRow n₀ E size (.slice (some ⟨g', 0, none⟩) (m + 1) cap') (m + 1) ys) (hgrow : (W.alloc tmp).grownBy w1 row)
    (hrr : row = none ∨ ∃ g cap cur, row = some g ∧ v = .slice (some ⟨g, 0, none⟩) m cap ∧ m + 1 ≤ cap ∧ (W.alloc tmp).heap[g]? = some (Obj.cells cur E (0, 0)) ∧ cur.size = cap * size) :
    Blk w1 B T #[v] ∧ Blk (w1.setCell ⟨B, 0, none⟩ (.slice (some ⟨g', 0, none⟩) (m + 1) cap')) B T #[.slice (some ⟨g', 0, none⟩) (m + 1) cap'] ∧
    (w1.setCell ⟨B, 0, none⟩ (.slice (some ⟨g', 0, none⟩) (m + 1) cap')).ownsRow n₀ E size (.slice (some ⟨g', 0, none⟩) (m + 1) cap') (m + 1) ys ∧
    KeepsOthers W (w1.setCell ⟨B, 0, none⟩ (.slice (some ⟨g', 0, none⟩) (m + 1) cap')) ∧ Below n₀ W (w1.setCell ⟨B, 0, none⟩ (.slice (some ⟨g', 0, none⟩) (m + 1) cap')) ∧
    ∀ k T' cs, Blk W k T' cs → k ≠ B → (T' ≠ E ∨ cs.size = size) → Blk (w1.setCell ⟨B, 0, none⟩ (.slice (some ⟨g', 0, none⟩) (m + 1) cap')) k T' cs := by
  have hrB : row ≠ some B := by
    rcases hrr with rfl | ⟨g, cap, cur, rfl, _, _, hg, _⟩
    · simp
    · intro e; injection e with e; subst e
      exact (hv.alloc tmp).ne_ (show Blk (W.alloc tmp) g E cur from hg) hT rfl
  have hv1 : Blk w1 B T #[v] := (hv.alloc tmp).grown hgrow (fun e => hrB e.symm)
  have hne1 : (Value.slice (some ⟨g', 0, none⟩) (m + 1) cap').ownBlock ≠ some B := own_blk_ne hown' hv1 (Ne.symm hT)
  refine ⟨hv1, hv1.set_ 0 _, hown'.kept (grownBy_setCell' w1 B _) (.inr hne1), ?_, ?_, ?_⟩
  · refine ((KeepsOthers.alloc W tmp).trans (KeepsOthers.of_grownBy hgrow fun j o ej hj => ?_)).trans (KeepsOthers.setCell _ _ _)
    rcases hrr with rfl | ⟨g, cap, cur, rfl, _, _, hg, _⟩
    · cases ej
    · injection ej with ej; subst ej; rw [hg] at hj; cases hj; rfl
  · refine (((Below.refl n₀ W).alloc hn₀ tmp).grown hgrow (by simp; omega) fun j ej => ?_).setCell (p := ⟨B, 0, none⟩) hBn _
    rcases hrr with rfl | ⟨g, cap, cur, rfl, rfl, _, hg, _⟩
    · cases ej
    · injection ej with ej; subst ej
      exact (hrow.lt g rfl).1
  · intro k T' cs hk hkB hs
    have h1 : Blk w1 k T' cs := by
      refine (hk.alloc tmp).grown hgrow fun e => ?_
      rcases hrr with rfl | ⟨g, cap, cur, rfl, hvg, hmc, hg, hcs⟩
      · cases e
      · injection e with e; subst e
        have h2 : Obj.cells cs T' (0, 0) = Obj.cells cur E (0, 0) := Option.some.inj ((show (W.alloc tmp).heap[k]? = _ from hk.alloc tmp).symm.trans hg)
        injection h2 with h2 h3
        subst h2
        rcases hs with hs | hs
        · exact hs h3
        · have hm : m ≠ 0 := fun h0 => by rw [hnil h0] at hvg; cases hvg
          rw [hcs] at hs
          have : 2 * size ≤ cap * size := Nat.mul_le_mul_right _ (by omega)
          omega
    exact h1.far (p := ⟨B, 0, none⟩) hkB _
set_option maxRecDepth 100000 in
set_option maxHeartbeats 4000000 in
theorem appendSeq_calls (l : List UInt8) (hl : l.length ≤ 1000000) (Bs : Nat) (w : World) (hs : Blk w Bs 9 #[.string (bs l)]) :
    Calls Tryz.prog 123 #[.slice none 0 0, .func (.func 95) #[] #[.pointer (some ⟨Bs, 0, none⟩)]] w fun e w' => ∃ v, e = .returned v ∧ w'.ownsRow w.heap.size 91 4 v (partsP l).length (partsC (partsP l)) ∧ Below w.heap.size w w' := by
  obtain ⟨i0, hi, hz0, hz1, hz2⟩ := info_parts infoPart
  have hpl : (partsP l).length ≤ 1000000 := Nat.le_trans (partsN_len _ _ _) hl
  have hbl := hs.lt
  refine (callsIn_wide (n := 3)).1 ?_
  refine callsIn_of_wp_marks Tryz.func123 rfl trivial ?_
  simp only [Tryz.ntmps123, List.size_toArray, List.length_cons, List.length_nil, Nat.reduceAdd, Nat.reduceSub, Array.replicate_succ, Array.replicate_zero, List.push_toArray, List.append_toArray, List.nil_append, List.cons_append]
  gi_wp2
  have hs0 := hs.alloc (.cells #[.slice none 0 0] 132)
  have bO := Blk.new w 132 #[.slice none 0 0]
  have hb0 := below1 w (.cells #[.slice none 0 0] 132)
  generalize hW0 : w.alloc (.cells #[.slice none 0 0] 132) = W0 at *
  have hsz0 : W0.heap.size = w.heap.size + 1 := by rw [← hW0]; simp
  clear hW0
  refine wpIn_rangeFunc_ownH rfl (by omega) (gf := 95) (lb := #[.pointer (some ⟨Bs, 0, none⟩)]) rfl trivial (enters_of Tryz.func95 (by kernel_rfl) rfl)
    (parts1_stops 2 (by omega) l hl Bs W0 hs0) kpP_t kpP_b (Below.refl _ _) (fun _ => rfl)
    (fun pre W => (∃ v, (Blk W w.heap.size 132 #[v] ∧ W.ownsRow w.heap.size 91 4 v pre.length (partsC pre)) ∧ (pre = [] → v = .slice none 0 0)) ∧ Below w.heap.size w W)
    (fun _ _ _ => False)
    (OwnFrom.and (fun s X Y row h hg hr => by
      obtain ⟨v, ⟨h1, h2⟩, h3⟩ := h
      exact ⟨v, ⟨Own.from (blk_own _ _ _) _ () X Y row h1 hg hr, Own.from (own_own _ _ _ _ _ _) _ () X Y row h2 hg hr⟩, h3⟩) (ownFrom_below (Nat.le_refl _) (by omega)))
    (fun _ _ _ _ _ hs _ _ => hs)
    ⟨⟨.slice none 0 0, ⟨bO, World.ownsRow_nil _ _ _ _⟩, fun _ => rfl⟩, hb0⟩
    (fun x a' W => ∃ Bx, w.heap.size < Bx ∧ Blk W Bx 91 #[.int .i64 x.at_, .int .i64 x.kind, .string (bs x.text), .int .i64 x.wrong] ∧ a' = { tmps := #[.slice none 0 0, .func (.func 95) #[] #[.pointer (some ⟨Bs, 0, none⟩)], .pointer (some ⟨w.heap.size, 0, none⟩), undef, .slice none 0 0, .pointer (some ⟨Bx, 0, none⟩), .func (.func 95) #[] #[.pointer (some ⟨Bs, 0, none⟩)], partV x, undef, undef, undef, undef, undef], defers := [] })
    (fun x a' s X Y row hs hg hr => by obtain ⟨Bx, e1, e2, e3⟩ := hs; exact ⟨Bx, e1, Own.from (blk_own _ _ _) _ () X Y row e2 hg hr, e3⟩)
    ?assign ?body ?done ?stop
  case assign =>
    rintro li pre x W K ⟨⟨v, ⟨hv, hrow⟩, hnil⟩, hB⟩ hK
    rw [show encP x = #[.agg #[.int .i64 x.at_, .int .i64 x.kind, .string (bs x.text), .int .i64 x.wrong]] from rfl]
    gi_wp2
    exact hK _ _ ((KeepsOthers.alloc _ _).from _) (kpP_alloc _ _) ⟨⟨v, ⟨hv.alloc _, hrow.alloc _⟩, hnil⟩, hB.alloc hB.size _⟩ ⟨W.heap.size, hv.lt, Blk.new _ _ _, rfl⟩
  case body =>
    rintro li pre x a' W hl' ⟨r, hr⟩ ⟨⟨v, ⟨hv, hrow⟩, hnil⟩, hB⟩ ⟨Bx, hBx, hX, rfl⟩ hlt
    obtain ⟨x0, x1, x2, x3, xf⟩ := hX.cells4
    have hc := hv.one
    have hcf := hv.frozen 0
    have hml : pre.length + 1 ≤ maxLen := by unfold maxLen; omega
    have hbase := hB.size
    gi_wp2_with (gi_at_builtin; refine wpListIn_append_one _ rfl _ _ 132 rfl w.heap.size 91 i0 _ 4 40 Tryz.underlying132 hi hz0 hz1 hz2 rfl (by decide) v pre.length (partsC pre) rfl (hrow.alloc _) ⟨W.heap.size, 0, none⟩ 1 1 (partC x) rfl rfl (row_new _ _ _) (by simp [partC, Value.oneCell']) hml (by omega) (by simp; omega) ?_; intro v' w1 row hown' hgrow hrr; obtain ⟨g', cap', rfl⟩ := ownsRow_succ hown'; obtain ⟨hv1, hv2, hr2, hk2, hb2, hk3⟩ := app_row (by decide) (by decide) hv hbase (Nat.le_refl _) hrow (fun h0 => hnil (List.eq_nil_of_length_eq_zero h0)) hown' hgrow hrr; have hc1 := hv1.one; have hf1 := hv1.frozen 0)
    exact ⟨hk2.from _, ⟨fun cs h => hk3 _ _ _ h (h.ne_ hv (by decide)) (.inl (by decide)), fun k cs h h4 => hk3 _ _ _ h (h.ne_ hv (by decide)) (.inr h4)⟩, ⟨⟨_, ⟨hv2, by rw [List.length_append, partsC_snoc]; exact hr2⟩, fun h0 => by simp at h0⟩, hB.trans hb2⟩⟩
  case done =>
    rintro D ys W hD rfl ⟨⟨v, ⟨hv, hrow⟩, _⟩, hB⟩ hK
    have hc := hv.one
    gi_wp2
    refine ⟨by simp, .inl ⟨_, _, rfl, run_takeDeferred hK, ?_⟩⟩
    exact ⟨_, results_tmp rfl _ _ _, v, rfl, ownsRow_putObj hrow _ hK rfl, hB.trans (belowK_b (w := w) (Nat.le_refl _) W D _ _ (by omega) hK rfl rfl)⟩
  case stop =>
    rintro D c pre W _ _ h _
    exact h.elim
end Go.Proofs.YtonnegkpjmhomaaGreatDoor
end
section
namespace Go.Proofs.YtonnegkpjmhomaaGreatDoor
open Go.RowKit Go.Shelf
set_option maxHeartbeats 400000 in
theorem collect_calls (l : List UInt8) (hl : l.length ≤ 1000000) (Bs : Nat) (w : World) (hs : Blk w Bs 9 #[.string (bs l)]) :
    Calls Tryz.prog 84 #[.func (.func 95) #[] #[.pointer (some ⟨Bs, 0, none⟩)]] w fun e w' => ∃ v, e = .returned v ∧ w'.ownsRow w.heap.size 91 4 v (partsP l).length (partsC (partsP l)) ∧ Below w.heap.size w w' := by
  have HA := Lib.hid (appendSeq_calls l hl Bs w hs)
  go_enter Tryz.func84, Tryz.ntmps84
  go_wp2_with fail
  refine HA.out.mono ?_
  rintro e w1 ⟨v, rfl, hrow, hb⟩
  go_wp2
  go_ret
  exact ⟨v, rfl, hrow, hb⟩
def tokC (p : Part) : List Value := [.int .i64 p.at_, .int .i64 p.kind, .string (bs p.text)]
def toksC (ps : List Part) : List Value := ps.flatMap tokC
theorem toksC_snoc (ps : List Part) (p : Part) : toksC (ps ++ [p]) = toksC ps ++ tokC p := by simp [toksC]
theorem infoTok : (Tryz.prog.info? 53).map (fun i => (i.zero, i.size, i.bytes)) = some (some (.agg #[.int .i64 0, .int .i64 0, .string ⟨#[]⟩]), 3, 32) := by kernel_rfl
theorem wrongP_snoc {pre : List Part} {x : Part} (h : wrongP pre < 0) : wrongP (pre ++ [x]) = if 0 ≤ x.wrong then x.wrong else -1 := by
  induction pre with
  | nil => rfl
  | cons p pre ih =>
    rw [List.cons_append, wrongP]
    unfold wrongP at h
    by_cases hp : 0 ≤ p.wrong
    · rw [if_pos hp] at h; omega
    · rw [if_neg hp] at h ⊢; exact ih h
theorem wrongP_pre {pre q : List Part} (h : 0 ≤ wrongP pre) : wrongP (pre ++ q) = wrongP pre := by
  induction pre with
  | nil => unfold wrongP at h; omega
  | cons p pre ih =>
    rw [List.cons_append, wrongP, wrongP]
    unfold wrongP at h
    by_cases hp : 0 ≤ p.wrong
    · rw [if_pos hp, if_pos hp]
    · rw [if_neg hp] at h; rw [if_neg hp, if_neg hp]; exact ih h
attribute [local go_sem] Oper.semAt_some
set_option maxRecDepth 100000 in
set_option maxHeartbeats 8000000 in
theorem Tokens_calls (l : List UInt8) (hl : l.length ≤ 1000000) (w : World) :
    Calls Tryz.prog 18 #[.string (bs l)] w fun e w' => ∃ (v : Value) (ps : List Part) (at_ er : Int), e = .returned (.tuple #[v, .int .i64 at_, .int .i64 er]) ∧ sTokens l = (ps, at_, er) ∧ w'.ownsRow w.heap.size 53 3 v ps.length (toksC ps) ∧ Below w.heap.size w w' := by
  obtain ⟨i0, hi, hz0, hz1, hz2⟩ := info_parts infoTok
  have hsz : (bs l).size = l.length := bs_size l
  by_cases hlong : 65536 < l.length
  · have Hs : Hid (sTokens l = ([], 0, 11)) := by show _ = _; unfold sTokens; rw [if_pos hlong]
    go_enter Tryz.func18, Tryz.ntmps18
    go_wp2_with fail
    refine bodyPost_ret (v := .tuple #[.slice none 0 0, .int .i64 0, .int .i64 11]) (by simp [results, Tryz.results18, go_sem]) rfl ⟨.slice none 0 0, [], 0, 11, rfl, Hs.out, World.ownsRow_nil _ _ _ _, ?_⟩
    exact below3 _ _ _ _
  have hpl : (partsP l).length ≤ 1000000 := Nat.le_trans (partsN_len _ _ _) hl
  refine (callsIn_wide (n := 3)).1 ?_
  refine callsIn_of_wp_marks Tryz.func18 rfl trivial ?_
  simp only [Tryz.ntmps18, List.size_toArray, List.length_cons, List.length_nil, Nat.reduceAdd, Nat.reduceSub, Array.replicate_succ, Array.replicate_zero, List.push_toArray, List.append_toArray, List.nil_append, List.cons_append]
  gi_wp2
  refine ⟨trivial, callsIn_wide.2 ((parts_calls l _).mono ?_)⟩
  rintro e w1 ⟨rfl, rfl⟩
  gi_wp2
  have hr0 := (((Blk.new w 48 #[.slice none 0 0]).alloc (.cells #[.int .i64 0] 3)).alloc (.cells #[.int .i64 0] 36)).alloc (.cells #[.slice none 0 0] 48)
  have hr1 := ((Blk.at_ (w.alloc (.cells #[.slice none 0 0] 48)) 3 #[.int .i64 0] (n := w.heap.size + 1) (by simp)).alloc (.cells #[.int .i64 0] 36)).alloc (.cells #[.slice none 0 0] 48)
  have hr2 := (Blk.at_ ((w.alloc (.cells #[.slice none 0 0] 48)).alloc (.cells #[.int .i64 0] 3)) 36 #[.int .i64 0] (n := w.heap.size + 2) (by simp)).alloc (.cells #[.slice none 0 0] 48)
  have ho := Blk.at_ (((w.alloc (.cells #[.slice none 0 0] 48)).alloc (.cells #[.int .i64 0] 3)).alloc (.cells #[.int .i64 0] 36)) 48 #[.slice none 0 0] (n := w.heap.size + 3) (by simp)
  have hb0 := (below3 w (.cells #[.slice none 0 0] 48) (.cells #[.int .i64 0] 3) (.cells #[.int .i64 0] 36)).alloc (by simp; omega) (.cells #[.slice none 0 0] 48)
  have hz0 : ((((w.alloc (.cells #[.slice none 0 0] 48)).alloc (.cells #[.int .i64 0] 3)).alloc (.cells #[.int .i64 0] 36)).alloc (.cells #[.slice none 0 0] 48)).heap.size = w.heap.size + 4 := by simp
  generalize (((w.alloc (.cells #[.slice none 0 0] 48)).alloc (.cells #[.int .i64 0] 3)).alloc (.cells #[.int .i64 0] 36)).alloc (.cells #[.slice none 0 0] 48) = Wa at *
  have hs0 := Blk.at_ Wa 9 #[.string (bs l)] hz0
  have hr0 := hr0.alloc (.cells #[.string (bs l)] 9)
  have hr1 := hr1.alloc (.cells #[.string (bs l)] 9)
  have hr2 := hr2.alloc (.cells #[.string (bs l)] 9)
  have ho := ho.alloc (.cells #[.string (bs l)] 9)
  have hb0 := hb0.alloc (by omega) (.cells #[.string (bs l)] 9)
  have hzW : (Wa.alloc (.cells #[.string (bs l)] 9)).heap.size = w.heap.size + 5 := by simp [hz0]
  generalize Wa.alloc (.cells #[.string (bs l)] 9) = W0 at *
  clear hz0
  refine wpIn_rangeFunc_ownH rfl (by omega) (gf := 95) (lb := #[.pointer (some ⟨w.heap.size + 4, 0, none⟩)]) rfl trivial (enters_of Tryz.func95 (by kernel_rfl) rfl)
    (parts1_stops 2 (by omega) l hl (w.heap.size + 4) W0 hs0) kpP_t kpP_b (Below.refl _ _) (fun _ => rfl)
    (fun pre W => (((((wrongP pre < 0 ∧ Blk W (w.heap.size + 4) 9 #[.string (bs l)]) ∧ Blk W w.heap.size 48 #[.slice none 0 0]) ∧ Blk W (w.heap.size + 1) 3 #[.int .i64 0]) ∧ Blk W (w.heap.size + 2) 36 #[.int .i64 0]) ∧ ∃ v, (Blk W (w.heap.size + 3) 48 #[v] ∧ W.ownsRow w.heap.size 53 3 v pre.length (toksC pre)) ∧ (pre = [] → v = .slice none 0 0)) ∧ Below w.heap.size w W)
    (fun c pre W => ((c = .ret ∧ 0 ≤ wrongP pre) ∧ ((Blk W w.heap.size 48 #[.slice none 0 0] ∧ Blk W (w.heap.size + 1) 3 #[.int .i64 (wrongP pre)]) ∧ Blk W (w.heap.size + 2) 36 #[.int .i64 4])) ∧ Below w.heap.size w W)
    (OwnFrom.and (OwnFrom.and (OwnFrom.and (OwnFrom.and (OwnFrom.and (OwnFrom.and (ownFrom_pure _ _) (Own.from (blk_own _ _ _) _)) (Own.from (blk_own _ _ _) _)) (Own.from (blk_own _ _ _) _)) (Own.from (blk_own _ _ _) _)) (fun s X Y row h hg hr => by
      obtain ⟨v, ⟨h1, h2⟩, h3⟩ := h
      exact ⟨v, ⟨Own.from (blk_own _ _ _) _ () X Y row h1 hg hr, Own.from (own_own _ _ _ _ _ _) _ () X Y row h2 hg hr⟩, h3⟩)) (ownFrom_below (Nat.le_refl _) (by omega)))
    (fun c => OwnFrom.and (OwnFrom.and (ownFrom_pure _ _) (OwnFrom.and (OwnFrom.and (Own.from (blk_own _ _ _) _) (fun s X Y row h hg hr => Own.from (blk_own _ _ _) _ () X Y row h hg hr)) (Own.from (blk_own _ _ _) _))) (ownFrom_below (Nat.le_refl _) (by omega)))
    ⟨⟨⟨⟨⟨⟨by decide, hs0⟩, hr0⟩, hr1⟩, hr2⟩, _, ⟨ho, World.ownsRow_nil _ _ _ _⟩, fun _ => rfl⟩, hb0⟩
    (fun x a' W => ∃ Bx, w.heap.size + 4 < Bx ∧ Blk W Bx 91 #[.int .i64 x.at_, .int .i64 x.kind, .string (bs x.text), .int .i64 x.wrong] ∧ a' = { tmps := #[.string (bs l), undef, .pointer (some ⟨w.heap.size, 0, none⟩), .pointer (some ⟨w.heap.size + 1, 0, none⟩), .pointer (some ⟨w.heap.size + 1 + 1, 0, none⟩), .pointer (some ⟨w.heap.size + 1 + 1 + 1, 0, none⟩), .pointer (some ⟨Bx, 0, none⟩), .string (bs l), .int .i64 l.length, .bool (decide ((65536 : Int) < (l.length : Int))), .string (bs l), .func (.func 95) #[] #[.pointer (some ⟨w.heap.size + 1 + 1 + 1 + 1, 0, none⟩)], .agg #[.int .i64 x.at_, .int .i64 x.kind, .string (bs x.text), .int .i64 x.wrong], undef, undef, undef, undef, undef, undef, undef, undef, undef, undef, undef], defers := [] })
    (fun x a' s X Y row hs hg hr => by obtain ⟨Bx, e1, e2, e3⟩ := hs; exact ⟨Bx, e1, Own.from (blk_own _ _ _) _ () X Y row e2 hg hr, e3⟩)
    ?assign ?body ?done ?stop
  case assign =>
    rintro li pre x W K ⟨⟨⟨⟨⟨⟨hp, hS⟩, h0⟩, h1⟩, h2⟩, v, ⟨h3, hrow⟩, hnil⟩, hB⟩ hK
    have hB5 : w.heap.size + 4 < W.heap.size := hS.lt
    rw [show encP x = #[.agg #[.int .i64 x.at_, .int .i64 x.kind, .string (bs x.text), .int .i64 x.wrong]] from rfl]
    gi_wp2
    exact hK _ _ ((KeepsOthers.alloc _ _).from _) (kpP_alloc _ _) ⟨⟨⟨⟨⟨⟨hp, hS.alloc _⟩, h0.alloc _⟩, h1.alloc _⟩, h2.alloc _⟩, v, ⟨h3.alloc _, hrow.alloc _⟩, hnil⟩, hB.alloc hB.size _⟩ ⟨W.heap.size, by omega, Blk.new _ _ _, rfl⟩
  case body =>
    rintro li pre x a' W hl' ⟨r, hr⟩ ⟨⟨⟨⟨⟨⟨hp, hS⟩, h0⟩, h1⟩, h2⟩, v, ⟨h3, hrow⟩, hnil⟩, hB⟩ ⟨Bx, hBx, hX, rfl⟩ hlt
    obtain ⟨x0, x1, x2, x3, xf⟩ := hX.cells4
    have hSl := hS.lt
    have b0 := h0.one
    have b1 := h1.one
    have b2 := h2.one
    have b3 := h3.one
    have f0 := h0.frozen 0
    have f1 := h1.frozen 0
    have f2 := h2.frozen 0
    have f3 := h3.frozen 0
    have Hp := Lib.hid (wrongP_snoc (x := x) hp)
    have hbase := hB.size
    have hml : pre.length + 1 ≤ maxLen := by unfold maxLen; omega
    have hd : 1 ≤ 3 - 1 - 1 := by omega
    have hmx : Tryz.prog.follows .mixedOrders = true := by kernel_rfl
    clear hp
    by_cases hw : 0 ≤ x.wrong
    · have Hw : Hid (wrongP (pre ++ [x]) = x.wrong) := by show _ = _; rw [Hp.out, if_pos hw]
      gi_wp2
      gi_region_with_o (fail)
      all_goals (try gi_wp2)
      all_goals (try go_bits)
      all_goals
        refine ⟨((((KeepsOthers.setCell _ _ _).trans (KeepsOthers.setCell _ _ _)).trans (KeepsOthers.setCell _ _ _)).trans (KeepsOthers.drew _)).from _, ⟨⟨rfl, by rw [Hw.out]; exact hw⟩, ⟨?_, ?_⟩, ?_⟩, ?_⟩
        · exact (((h0.set_ 0 _).far (by simp) _).far (by simp <;> omega) _).drew
        · rw [Hw.out]
          exact (((h1.far (by simp) _).set_ 0 _).far (by simp) _).drew
        · exact (((h2.far (by simp) _).far (by simp) _).set_ 0 _).drew
        · exact (((hB.setCell (p := ⟨w.heap.size, 0, none⟩) (Nat.le_refl _) _).setCell (p := ⟨w.heap.size + 1, 0, none⟩) (by simp) _).setCell (p := ⟨w.heap.size + 1 + 1, 0, none⟩) (by simp <;> omega) _).drew
    · have Hw : Hid (wrongP (pre ++ [x]) = -1) := by show _ = _; rw [Hp.out, if_neg hw]
      gi_wp2_with (gi_at_builtin; refine wpListIn_append_one _ rfl _ _ 48 rfl w.heap.size 53 i0 _ 3 32 Tryz.underlying48 hi hz0 hz1 hz2 rfl (by decide) v pre.length (toksC pre) rfl (hrow.alloc _) ⟨W.heap.size, 0, none⟩ 1 1 (tokC x) rfl rfl (row_new _ _ _) (by simp [tokC, Value.oneCell']) hml (by omega) (by simp; omega) ?_; intro v' w1 row hown' hgrow hrr; obtain ⟨g', cap', rfl⟩ := ownsRow_succ hown'; obtain ⟨hv1, hv2, hr2, hk2, hb2, hk3⟩ := app_row (by decide) (by decide) h3 hbase (by omega) hrow (fun h0 => hnil (List.eq_nil_of_length_eq_zero h0)) hown' hgrow hrr; have hc1 := hv1.one; have hf1 := hv1.frozen 0)
      refine ⟨hk2.from _, ⟨fun cs h => hk3 _ _ _ h (h.ne_ h3 (by decide)) (.inl (by decide)), fun k cs h h4 => hk3 _ _ _ h (h.ne_ h3 (by decide)) (.inl (by decide))⟩, ⟨⟨⟨⟨⟨⟨by rw [Hw.out]; decide, hk3 _ _ _ hS (by omega) (.inl (by decide))⟩, hk3 _ _ _ h0 (by omega) (.inl (by decide))⟩, hk3 _ _ _ h1 (by omega) (.inl (by decide))⟩, hk3 _ _ _ h2 (by omega) (.inl (by decide))⟩, _, ⟨hv2, ?_⟩, fun h => by simp at h⟩, hB.trans hb2⟩⟩
      rw [List.length_append, toksC_snoc]; exact hr2
  case done =>
    rintro D ys W hD rfl ⟨⟨⟨⟨⟨⟨hp, hS⟩, h0⟩, h1⟩, h2⟩, v, ⟨h3, hrow⟩, _⟩, hB⟩ hK
    have Hs : Hid (sTokens l = (partsP l, 0, 0)) := by show _ = _; unfold sTokens; rw [if_neg hlong, if_neg (by omega)]
    have b3 := h3.one
    have b0 := h0.one
    have b1 := h1.one
    have b2 := h2.one
    have f0 := h0.frozen 0
    have f1 := h1.frozen 0
    have f2 := h2.frozen 0
    obtain ⟨A, cc, rfl⟩ := own_form hrow
    gi_wp2
    have hK' := (((KeepsOthers.setCell W ⟨w.heap.size, 0, none⟩ (.slice A (partsP l).length cc)).trans (KeepsOthers.setCell _ ⟨w.heap.size + 1, 0, none⟩ (.int .i64 0))).trans (KeepsOthers.setCell _ ⟨w.heap.size + 2, 0, none⟩ (.int .i64 0))).same D _ hK rfl
    refine ⟨by simp, .inl ⟨_, _, rfl, run_takeDeferred hK', ?_⟩⟩
    have c0 := (Blk.put (o' := .deferred none) hK' rfl (((h0.set_ 0 (.slice A (partsP l).length cc)).far (p := ⟨w.heap.size + 1, 0, none⟩) (by simp) (.int .i64 0)).far (p := ⟨w.heap.size + 2, 0, none⟩) (by simp) (.int .i64 0))).cell 0
    have c1 := (Blk.put (o' := .deferred none) hK' rfl (((h1.far (p := ⟨w.heap.size, 0, none⟩) (by simp) (.slice A (partsP l).length cc)).set_ 0 (.int .i64 0)).far (p := ⟨w.heap.size + 2, 0, none⟩) (by simp) (.int .i64 0))).cell 0
    have c2 := (Blk.put (o' := .deferred none) hK' rfl (((h2.far (p := ⟨w.heap.size, 0, none⟩) (by simp) (.slice A (partsP l).length cc)).far (p := ⟨w.heap.size + 1, 0, none⟩) (by simp) (.int .i64 0)).set_ 0 (.int .i64 0))).cell 0
    have e0 := own_blk_ne hrow h0 (by decide)
    have e1 := own_blk_ne hrow h1 (by decide)
    have e2 := own_blk_ne hrow h2 (by decide)
    refine ⟨.tuple #[.slice A (partsP l).length cc, .int .i64 0, .int .i64 0], ?_, .slice A (partsP l).length cc, partsP l, 0, 0, rfl, Hs.out, ?_, ?_⟩
    · simp [results, Tryz.results18, go_sem, c0, c1, c2]
    · exact ownsRow_putObj (((hrow.kept (grownBy_setCell' _ _ _) (.inr e0)).kept (grownBy_setCell' _ _ _) (.inr e1)).kept (grownBy_setCell' _ _ _) (.inr e2)) _ hK' rfl
    · exact (((hB.setCell (p := ⟨w.heap.size, 0, none⟩) (Nat.le_refl _) _).setCell (p := ⟨w.heap.size + 1, 0, none⟩) (by simp) _).setCell (p := ⟨w.heap.size + 2, 0, none⟩) (by simp) _).trans (belowK_b (w := w) (Nat.le_refl _) _ D _ _ (by omega) hK' rfl rfl)
  case stop =>
    rintro D c pre W hD hpre ⟨⟨⟨rfl, hw⟩, ⟨h0, h1⟩, h2⟩, hB⟩ hK
    obtain ⟨q, hq⟩ := hpre
    have Hs : Hid (sTokens l = ([], wrongP pre, 4)) := by show _ = _; unfold sTokens; rw [if_neg hlong, ← hq, wrongP_pre hw, if_pos hw]
    have b0 := h0.one
    have b1 := h1.one
    have b2 := h2.one
    gi_wp2
    refine ⟨by simp, .inl ⟨_, _, rfl, run_takeDeferred hK, ?_⟩⟩
    have c0 := (Blk.put (o' := .deferred none) hK rfl h0).cell 0
    have c1 := (Blk.put (o' := .deferred none) hK rfl h1).cell 0
    have c2 := (Blk.put (o' := .deferred none) hK rfl h2).cell 0
    refine ⟨.tuple #[.slice none 0 0, .int .i64 (wrongP pre), .int .i64 4], ?_, .slice none 0 0, [], wrongP pre, 4, rfl, Hs.out, World.ownsRow_nil _ _ _ _, ?_⟩
    · simp [results, Tryz.results18, go_sem, c0, c1, c2]
    · exact hB.trans (belowK_b (w := w) (Nat.le_refl _) _ D _ _ (by omega) hK rfl rfl)
end Go.Proofs.YtonnegkpjmhomaaGreatDoor
end
section
namespace Go.Proofs.YtonnegkpjmhomaaGreatDoor
open Go.RowKit
theorem ba_beq (x y : ByteArray) : (x.toList == y.toList) = (x.data.toList == y.data.toList) := by
  rw [ByteArray.toList_eq, ByteArray.toList_eq]
theorem bs_beq (a b : List UInt8) : ((bs a).toList == (bs b).toList) = (a == b) := by rw [ba_beq, bs_list, bs_list]
set_option maxHeartbeats 400000 in
theorem is_calls (t : List UInt8) (w : World) : Calls Tryz.prog 86 #[.string (bs t)] w fun e w' => e = .returned (.func (.func 125) #[] #[.pointer (some ⟨w.heap.size, 0, none⟩)]) ∧ w' = w.alloc (.cells #[.string (bs t)] 9) := by
  go_enter Tryz.func86, Tryz.ntmps86
  go_wp2
  go_ret
  exact ⟨rfl, rfl⟩
set_option maxHeartbeats 400000 in
theorem is1_calls (t : List UInt8) (Bc : Nat) (p : Part) (w : World) (h : Blk w Bc 9 #[.string (bs t)]) :
    Calls Tryz.prog 125 #[partV p, .pointer (some ⟨Bc, 0, none⟩)] w fun e w' => e = .returned (.bool (isT t p)) ∧ Below w.heap.size w w' := by
  have hc := (h.alloc (.cells #[.int .i64 p.at_, .int .i64 p.kind, .string (bs p.text), .int .i64 p.wrong] 91)).one
  have hb := bs_beq p.text t
  unfold partV
  go_enter Tryz.func125, Tryz.ntmps125
  go_wp2
  go_ret
  exact ⟨rfl, below1 _ _⟩
set_option maxHeartbeats 400000 in
theorem number1_calls (p : Part) (w : World) :
    Calls Tryz.prog 127 #[partV p] w fun e w' => e = .returned (.bool (isN p)) ∧ Below w.heap.size w w' := by
  have hv : Hid (isN p = ((p.kind : Int) == 2)) := by show _ = _; unfold isN; rw [Bool.eq_iff_iff]; simp; omega
  rw [hv.out]
  unfold partV
  go_enter Tryz.func127, Tryz.ntmps127
  go_wp2
  go_ret
  exact ⟨rfl, below1 _ _⟩
structure RdAt (w : World) (R : Nat) (l : List UInt8) (ps : List Part) (s : St) (nv sv lv : Value) : Prop where
  blk : Blk w R 138 #[.string (bs l), lv, .int .i64 s.i, .int .i64 s.wrong, nv, sv]
  list : w.ownsRow 0 91 4 lv ps.length (partsC ps)
theorem RdAt.grown {w w' : World} {R : Nat} {l : List UInt8} {ps : List Part} {s : St} {nv sv lv : Value} (h : RdAt w R l ps s nv sv lv) {row : Option Nat} (hg : w.grownBy w' row) (h1 : row ≠ some R) (h2 : ∀ g, row = some g → lv.ownBlock ≠ some g) : RdAt w' R l ps s nv sv lv :=
  ⟨h.blk.grown hg (Ne.symm h1), h.list.kept hg (by
    cases hv : lv.ownBlock with
    | none => exact .inl rfl
    | some g => exact .inr fun e => h2 g e.symm hv)⟩
theorem RdAt.below {w w' : World} {R : Nat} {l : List UInt8} {ps : List Part} {s : St} {nv sv lv : Value} (h : RdAt w R l ps s nv sv lv) (hb : Below w.heap.size w w') : RdAt w' R l ps s nv sv lv :=
  ⟨h.blk.below hb h.blk.lt, own_below h.list hb (Nat.le_refl _)⟩
theorem partsC_get {ps : List Part} {i : Nat} {p : Part} (h : ps[i]? = some p) : ∀ j, j < 4 → (partsC ps)[i * 4 + j]? = (partC p)[j]? := by
  induction ps generalizing i with
  | nil => cases h
  | cons q ps ih =>
    intro j hj
    have e : partsC (q :: ps) = partC q ++ partsC ps := rfl
    have e4 : (partC q).length = 4 := rfl
    rw [e]
    cases i with
    | zero =>
      have h : q = p := by simpa using h
      subst h
      rw [Nat.zero_mul, Nat.zero_add, List.getElem?_append_left (by rw [e4]; exact hj)]
    | succ i =>
      rw [List.getElem?_append_right (by rw [e4]; omega), e4, show (i + 1) * 4 + j - 4 = i * 4 + j by omega]
      exact ih (by simpa using h) j hj
theorem RdAt.part {w : World} {R : Nat} {l : List UInt8} {ps : List Part} {s : St} {nv sv lv : Value} (h : RdAt w R l ps s nv sv lv) (hi : s.i < ps.length) :
    ∃ g c, lv = .slice (some ⟨g, 0, none⟩) ps.length c ∧ ps.length ≤ c ∧ c ≤ maxLen ∧ w.cell? ⟨g, s.i * 4, none⟩ = some (.int .i64 (lookP ps l.length s.i).at_) ∧ w.cell? ⟨g, s.i * 4 + 1, none⟩ = some (.int .i64 (lookP ps l.length s.i).kind) ∧
      w.cell? ⟨g, s.i * 4 + 2, none⟩ = some (.string (bs (lookP ps l.length s.i).text)) ∧ w.cell? ⟨g, s.i * 4 + 3, none⟩ = some (.int .i64 (lookP ps l.length s.i).wrong) := by
  rcases h.list.2 with ⟨_, h0⟩ | ⟨g, c, cur, rfl, _, hg, hnc, hcm, hcs, htk⟩
  · omega
  · have hp : ps[s.i]? = some (lookP ps l.length s.i) := by
      unfold lookP
      rw [List.getD_eq_getElem?_getD, List.getElem?_eq_getElem hi]; rfl
    have hcell : ∀ j, j < 4 → w.cell? ⟨g, s.i * 4 + j, none⟩ = (partC (lookP ps l.length s.i))[j]? := fun j hj => by
      rw [cell_of_row w g _ cur _ (0, 0) hg, ← partsC_get hp j hj, ← htk, List.getElem?_take, if_pos (by omega)]
      simp
    exact ⟨g, c, rfl, hnc, hcm, hcell 0 (by decide), hcell 1 (by decide), hcell 2 (by decide), hcell 3 (by decide)⟩
set_option maxRecDepth 100000 in
set_option maxHeartbeats 4000000 in
theorem look_calls (R : Nat) (l : List UInt8) (ps : List Part) (s : St) (nv sv lv : Value) (w : World) (h : RdAt w R l ps s nv sv lv) :
    Calls Tryz.prog 124 #[.pointer (some ⟨R, 0, none⟩)] w fun e w' => e = .returned (partV (lookP ps l.length s.i)) ∧ Below w.heap.size w w' := by
  have hsz : (bs l).size = l.length := bs_size l
  have hRl := h.blk.lt
  by_cases hi : s.i < ps.length
  · obtain ⟨g, c, rfl, hc1, hc2, k0, k1, k2, k3⟩ := h.part hi
    have hgl : g < w.heap.size := World.block_lt_of_cell? w ⟨g, s.i * 4, none⟩ k0
    have hb := h.blk.alloc (.cells #[.int .i64 0, .int .i64 0, .string ⟨#[]⟩, .int .i64 0] 91)
    obtain ⟨b0, b1, b2, b3, b4, bf⟩ := hb.cells6
    unfold maxLen at hc2
    generalize lookP ps l.length s.i = p at *
    go_enter Tryz.func124, Tryz.ntmps124
    go_wp2_with fail
    go_quiet (fail)
    go_wp2_with fail
    obtain ⟨wd, hwd⟩ : ∃ wd, wd = ((w.alloc (.cells #[.int .i64 0, .int .i64 0, .string ⟨#[]⟩, .int .i64 0] 91)).drewN nq).drew := ⟨_, rfl⟩
    refine still_tail 11 (by kernel_rfl) (by kernel_rfl) wd hwd ?_
    simp only [List.take_succ_cons, List.take_zero, List.drop_succ_cons, List.drop_zero]
    have hbB : Below w.heap.size w wd := by rw [hwd]; exact (belowN (below1 _ _) nq).drew
    have hr : Blk wd w.heap.size 91 #[.int .i64 0, .int .i64 0, .string ⟨#[]⟩, .int .i64 0] := by rw [hwd]; exact Blk.new w _ _
    have hb := h.blk.below hbB hRl
    rw [← hbB.cell (p := ⟨g, s.i * 4, none⟩) hgl] at k0
    rw [← hbB.cell (p := ⟨g, s.i * 4 + 1, none⟩) hgl] at k1
    rw [← hbB.cell (p := ⟨g, s.i * 4 + 2, none⟩) hgl] at k2
    rw [← hbB.cell (p := ⟨g, s.i * 4 + 3, none⟩) hgl] at k3
    clear hwd b0 b1 b2 b3 b4 bf
    obtain ⟨b0, b1, b2, b3, b4, b5, bf⟩ := hb.cells6
    obtain ⟨r0, r1, r2, r3, rf⟩ := hr.cells4
    repeat still_step
    refine wpStill_nil ?_
    go_wp2_with fail
    refine bodyPost_ret (v := .agg #[.int .i64 p.at_, .int .i64 p.kind, .string (bs p.text), .int .i64 p.wrong]) ?_ rfl ⟨rfl, ?_⟩
    · simp [results, Tryz.results124, go_sem, r0, r1, r2, r3]
    · exact below_put4 hbB (Nat.le_refl _) _ _ _ _
  · have hp : Hid (lookP ps l.length s.i = ⟨l.length, 0, [], -1⟩) := by
      show _ = _; unfold lookP; rw [List.getD_eq_getElem?_getD, List.getElem?_eq_none (by omega)]; rfl
    obtain ⟨A, c, rfl⟩ := own_form h.list
    have hb := h.blk.alloc (.cells #[.int .i64 0, .int .i64 0, .string ⟨#[]⟩, .int .i64 0] 91)
    obtain ⟨b0, b1, b2, b3, b4, bf⟩ := hb.cells6
    go_enter Tryz.func124, Tryz.ntmps124
    go_wp2_with fail
    go_quiet (fail)
    go_wp2_with fail
    refine bodyPost_ret (v := .agg #[.int .i64 l.length, .int .i64 0, .string (bs []), .int .i64 (-1)]) ?_ rfl ⟨by rw [hp.out]; rfl, ?_⟩
    · simp [results, Tryz.results124, go_sem]
      rfl
    · exact ((((belowN (below1 _ _) nq).setCell (Nat.le_refl _) _).setCell (Nat.le_refl _) _).setCell (Nat.le_refl _) _).setCell (Nat.le_refl _) _
end Go.Proofs.YtonnegkpjmhomaaGreatDoor
end
section
namespace Go.Proofs.YtonnegkpjmhomaaGreatDoor
open Go.RowKit Go.Maps
theorem wpList_insert_own {H : Type} {P : Program} (w : World) {ops : Array Oper} {rest : List Oper} {o : Oper} {a : Act} {Q : Exit → Act → World → Prop}
    (hg : o.guard = none) (m x v : Operand) (t : TypeId) (hop : o.op = Op.insert t m x v)
    (k e : TypeId) (K : Keyed P k) (ht : P.underlying t = some (.map k e)) (R : Value → Option (DataW H × List MemPlace)) (b n : Nat) (D : DataW H)
    (hm : a.eval m = .map (some b)) (hown : w.ownsMap P k R b n D) (hn : n < maxLen) (key val : Value) (kl : Lit) (hx : a.eval x = key) (hv : a.eval v = val) (hkey : keyOf P k key = some kl)
    (d : DataW H) (ps : List MemPlace) (hval : R val = some (d, ps))
    (hK : ∀ w', w'.ownsMap P k R b (n + 1) (D.put kl d) → w.grownBy w' (some b) → wpList P ops Q rest (a.put o.dst undef) w') :
    wpList P ops Q (o :: rest) a w := by
  refine wpList_plain hg fun K' hK' => ?_
  obtain ⟨w', hrun, r1, r2⟩ := hown.update K ht hn hkey hval
  unfold Oper.wp
  simp [execOp, hop, hm, hx, hv, hrun, Result.andThen]
  exact hK' _ _ (hK w' r1 r2)
def wordsD : DataW Unit := wordTab.foldl (fun D p => D.put (.string p.1) (.lit (.int .i64 p.2))) (.map [])
theorem lawS : Keyed Tryz.prog 9 := string_keyed Tryz.underlying9
theorem keyS (x : List UInt8) (h : x.length ≤ 1000000) : keyOf Tryz.prog 9 (.string (bs x)) = some (.string x) := by
  have := WideMaps.keyOf_string_mk (P := Tryz.prog) Tryz.underlying9 (s := bs x) (by rw [bs_size]; unfold maxLen; omega)
  rw [this, bs_list]
set_option maxRecDepth 100000 in
set_option maxHeartbeats 4000000 in
theorem words_calls (w : World) : Calls Tryz.prog 128 #[] w fun e w' => ∃ B, e = .returned (.map (some B)) ∧ w'.ownsMap Tryz.prog 9 (plainElem Tryz.prog 3) B 14 wordsD ∧ Below w.heap.size w w' := by
  have hmm := @run_makeMap Tryz.prog
  have hown0 := World.ownsMap_made w Tryz.prog 9 (plainElem (H := Unit) Tryz.prog 3)
  have hb := below1 w (.map #[] 0)
  go_enter Tryz.func128, Tryz.ntmps128
  go_wp2_with ((refine wpList_insert_own _ rfl _ _ _ 178 rfl 9 3 lawS Tryz.underlying178 _ w.heap.size _ _ rfl hown0 (by unfold maxLen; omega) _ _ _ rfl rfl (keyS _ (by decide)) _ [] (plainElem_int Tryz.underlying3 (by decide)) ?_); intro w1 hown1 hgrow1; have hb1 := hb.grown hgrow1 hb.size (fun k e => by cases e; exact Nat.le_refl _); clear hown0 hb hgrow1; have hown0 := hown1; have hb := hb1; clear hown1 hb1)
  go_ret
  exact ⟨w.heap.size, rfl, hown0, hb⟩
theorem words_at (x : List UInt8) : wordsD.atKey (.string x) (.lit (.int .i64 0)) = .lit (.int .i64 (kindW x)) := by
  by_cases hm : 0 < kindW x
  · have h := kindW_mem.1 hm
    simp only [wordTab, List.map_cons, List.map_nil, List.mem_cons, List.not_mem_nil, or_false] at h
    rcases h with rfl | rfl | rfl | rfl | rfl | rfl | rfl | rfl | rfl | rfl | rfl | rfl | rfl | rfl <;> rfl
  · have hk : kindW x = 0 := by
      have h2 : kindW x = ((wordTab.find? (fun p => p.1 == x)).map (·.2)).getD 0 := rfl
      cases hf : wordTab.find? (fun p => p.1 == x) with
      | none => rw [h2, hf]; rfl
      | some p =>
        exfalso
        have h3 := List.mem_of_find?_eq_some hf
        have h4 : ∀ q ∈ wordTab, 0 < q.2 := by decide
        rw [h2, hf] at hm
        exact hm (h4 p h3)
    have hn : x ∉ wordTab.map (·.1) := fun h => hm (kindW_mem.2 h)
    rw [hk]
    unfold wordsD
    have key : ∀ (l : List (List UInt8 × Int)) (D : DataW Unit), x ∉ l.map (·.1) → (l.foldl (fun D p => D.put (.string p.1) (.lit (.int .i64 p.2))) D).atKey (.string x) (.lit (.int .i64 0)) = D.atKey (.string x) (.lit (.int .i64 0)) := by
      intro l
      induction l with
      | nil => intro D _; rfl
      | cons p l ih =>
        intro D h
        simp only [List.map_cons, List.mem_cons, not_or] at h
        rw [List.foldl_cons, ih _ h.2, atKey_put_other (fun e => h.1 (by injection e))]
    exact key wordTab (.map []) hn
theorem words_look {w : World} {B : Nat} (h : w.ownsMap Tryz.prog 9 (plainElem Tryz.prog 3) B 14 wordsD) (x : List UInt8) (hx : x.length ≤ 1000000) :
    (Instr.lookup 178 (.map (some B)) (.string (bs x)) false).run Tryz.prog w = .ok (.int .i64 (kindW x)) w := by
  obtain ⟨c, hrun, hat, _⟩ := h.lookup_int lawS Tryz.underlying178 Tryz.underlying3 (by kernel_rfl) (keyS x hx)
  have hat := (words_at x).symm.trans hat
  have : kindW x = c := (Lit.int.inj (DataW.lit.inj hat)).2
  rw [hrun, this]
set_option maxRecDepth 100000 in
set_option maxHeartbeats 4000000 in
theorem gate1_calls (p : Part) (hp : p.text.length ≤ 1000000) (w : World) :
    Calls Tryz.prog 129 #[partV p] w fun e w' => e = .returned (.bool (isK p)) ∧ Below w.heap.size w w' := by
  unfold partV
  have HW := Lib.hid (fun W => words_calls W)
  have hb0 := Blk.new w 91 #[.int .i64 p.at_, .int .i64 p.kind, .string (bs p.text), .int .i64 p.wrong]
  have hbw := below1 w (.cells #[.int .i64 p.at_, .int .i64 p.kind, .string (bs p.text), .int .i64 p.wrong] 91)
  have hk : Hid (isK p = decide (0 < kindW p.text)) := rfl
  rw [hk.out]
  go_enter Tryz.func129, Tryz.ntmps129
  go_wp2_with fail
  generalize w.alloc (.cells #[.int .i64 p.at_, .int .i64 p.kind, .string (bs p.text), .int .i64 p.wrong] 91) = wa at *
  obtain ⟨b0, b1, b2, b3, bf⟩ := hb0.cells4
  go_region_with (go_at_call 128; (with_reducible refine (HW.out _).mono ?_); rintro e w1 ⟨B, rfl, hown, hb1⟩; have hlk := words_look hown p.text hp; have hb2 := hb0.drew.below hb1 hb0.lt; have hbw2 := bt hb1 hbw.drew hbw.size; obtain ⟨d0, d1, d2, d3, df⟩ := hb2.cells4)
  all_goals go_wp2_with fail
  all_goals go_ret
  all_goals exact ⟨rfl, by first | exact hbw2 | exact hbw2.drew⟩
end Go.Proofs.YtonnegkpjmhomaaGreatDoor
end
section
namespace Go.Proofs.YtonnegkpjmhomaaGreatDoor
open Go.RowKit
theorem grown_trans {a b c : World} {row : Option Nat} (h : a.grownBy b row) (k : b.grownBy c row) : a.grownBy c row :=
  ⟨k.os.trans h.os, k.tape.trans h.tape, k.output.trans h.output, Nat.le_trans h.size k.size, fun i hi hr => (k.block i (Nat.lt_of_lt_of_le hi h.size) hr).trans (h.block i hi hr)⟩
theorem grown_below {a b : World} (h : Below a.heap.size a b) (row : Option Nat) : a.grownBy b row := ⟨h.os, h.tape, h.output, h.size, fun k hk _ => h.block k hk⟩
theorem grown_set {a b : World} {R : Nat} (h : a.grownBy b (some R)) (i : Nat) (v : Value) : a.grownBy (b.setCell ⟨R, i, none⟩ v) (some R) :=
  grown_trans h (grownBy_setCell' b R v |>.block |> fun _ => ⟨rfl, rfl, rfl, by simp, fun k _ hk => Below.heap_setCell b ⟨R, i, none⟩ v k (fun e => hk (by rw [e]))⟩)
theorem grown_via {a X b : World} {row : Option Nat} (h : a.grownBy X row) (hb : Below X.heap.size X b) : a.grownBy b row := grown_trans h (grown_below hb row)
set_option maxRecDepth 100000 in
set_option maxHeartbeats 8000000 in
theorem take_calls (f : FuncId) (lb : Array Value) (hent : ∀ args w, (callFunc f args).run Tryz.prog w = .ok (.enter f args) w) (nd : Part → Bool) (R : Nat) (l : List UInt8) (ps : List Part) (s : St) (nv sv lv : Value) (hps : ps.length ≤ 1000000) (w : World) (h : RdAt w R l ps s nv sv lv)
    (hk : ∀ W, w.grownBy W (some R) → Calls Tryz.prog f (#[partV (lookP ps l.length s.i)] ++ lb) W fun e w' => e = .returned (.bool (nd (lookP ps l.length s.i))) ∧ Below W.heap.size W w') (hi : s.i ≤ ps.length) :
    Calls Tryz.prog 85 #[.pointer (some ⟨R, 0, none⟩), .func (.func f) #[] lb] w fun e w' =>
      e = .returned (.string (bs (takeP ps l.length nd s).1)) ∧ RdAt w' R l ps (takeP ps l.length nd s).2 (.func (.func f) #[] lb) sv lv ∧ w.grownBy w' (some R) := by
  have Hk := Lib.hid hk
  have Hent := Lib.hid hent
  clear hk hent
  have hRl := h.blk.lt
  have hg0 : w.grownBy (w.setCell ⟨R, 4, none⟩ (.func (.func f) #[] lb)) (some R) := grown_set (grown_below (Below.refl _ _) _) 4 _
  have h0 : RdAt (w.setCell ⟨R, 4, none⟩ (.func (.func f) #[] lb)) R l ps s (.func (.func f) #[] lb) sv lv :=
    ⟨h.blk.set_ 4 _, h.list.kept (grown_set (grown_below (Below.refl _ _) _) 4 _) (.inr (own_blk_ne h.list h.blk (by decide)))⟩
  obtain ⟨b0, b1, b2, b3, b4, b5, bf⟩ := h.blk.cells6
  go_enter Tryz.func85, Tryz.ntmps85
  go_wp2_with fail
  refine (look_calls R l ps s _ _ _ _ h0).mono ?_
  rintro e w1 ⟨he, hb1⟩
  unfold partV at he
  subst he
  go_upto_region 3 with fail
  have h1 := (h0.below hb1).below (below1 _ (.cells #[.int .i64 (lookP ps l.length s.i).at_, .int .i64 (lookP ps l.length s.i).kind, .string (bs (lookP ps l.length s.i).text), .int .i64 (lookP ps l.length s.i).wrong] 91))
  have hg1 := grown_via (grown_via hg0 hb1) (below1 _ (.cells #[.int .i64 (lookP ps l.length s.i).at_, .int .i64 (lookP ps l.length s.i).kind, .string (bs (lookP ps l.length s.i).text), .int .i64 (lookP ps l.length s.i).wrong] 91))
  have hq1 := Blk.new w1 91 #[.int .i64 (lookP ps l.length s.i).at_, .int .i64 (lookP ps l.length s.i).kind, .string (bs (lookP ps l.length s.i).text), .int .i64 (lookP ps l.length s.i).wrong]
  have hz1 : R < w1.heap.size := (h0.below hb1).blk.lt
  clear b0 b1 b2 b3 b4 b5 bf h0 hg0 hb1 h
  have Ht : Hid (takeP ps l.length nd s = if 0 ≤ s.wrong then ([], s) else if (lookP ps l.length s.i).kind = 0 ∨ nd (lookP ps l.length s.i) = false then ([], ⟨s.i, (lookP ps l.length s.i).at_⟩) else if 0 ≤ (lookP ps l.length s.i).wrong then ([], ⟨s.i, (lookP ps l.length s.i).wrong⟩) else ((lookP ps l.length s.i).text, ⟨s.i + 1, s.wrong⟩)) := rfl
  generalize hP : w1.heap.size = P at *
  generalize lookP ps l.length s.i = p at *
  generalize nd p = ndp at *
  have hPR : R ≠ P := by omega
  clear hP
  generalize w1.alloc (.cells #[.int .i64 p.at_, .int .i64 p.kind, .string (bs p.text), .int .i64 p.wrong] 91) = wa at *
  by_cases hw : 0 ≤ s.wrong
  · have Hr : Hid (takeP ps l.length nd s = ([], s)) := by show _ = _; rw [Ht.out, if_pos hw]
    obtain ⟨b0, b1, b2, b3, b4, b5, bf⟩ := h1.blk.cells6
    go_wp2_with fail
    go_ret
    exact ⟨by rw [Hr.out]; rfl, by rw [Hr.out]; exact h1, hg1⟩
  · obtain ⟨b0, b1, b2, b3, b4, b5, bf⟩ := h1.blk.cells6
    obtain ⟨q0, q1, q2, q3, qf⟩ := hq1.cells4
    by_cases hk0 : p.kind = 0
    · have Hr : Hid (takeP ps l.length nd s = ([], ⟨s.i, p.at_⟩)) := by show _ = _; rw [Ht.out, if_neg (show ¬ 0 ≤ s.wrong by omega), if_pos (.inl hk0)]
      have hkb : ((p.kind : Int) == 0) = true := by rw [hk0]; rfl
      clear hk0
      go_upto_region 5 with fail
      obtain ⟨wd, hwd⟩ : ∃ wd, wd = wa.drew := ⟨_, rfl⟩
      refine still_tail 10 (by kernel_rfl) (by kernel_rfl) wd hwd ?_
      simp only [List.take_succ_cons, List.take_zero, List.drop_succ_cons, List.drop_zero]
      have h1 : RdAt wd R l ps s (.func (.func f) #[] lb) sv lv := by rw [hwd]; exact ⟨h1.blk.drew, h1.list⟩
      have hg1 : w.grownBy wd (some R) := by rw [hwd]; exact grown_via hg1 ((Below.refl _ _).drew)
      have hq1 := hq1.drew
      rw [← hwd] at hq1
      clear hwd b0 b1 b2 b3 b4 b5 bf q0 q1 q2 q3 qf
      obtain ⟨b0, b1, b2, b3, b4, b5, bf⟩ := h1.blk.cells6
      obtain ⟨q0, q1, q2, q3, qf⟩ := hq1.cells4
      repeat still_step
      refine wpStill_nil ?_
      go_wp2_with fail
      go_ret
      exact ⟨by rw [Hr.out]; rfl, by rw [Hr.out]; exact ⟨h1.blk.set_ 3 _, h1.list.kept (grown_set (grown_below (Below.refl _ _) _) 3 _) (.inr (own_blk_ne h1.list h1.blk (by decide)))⟩, grown_set hg1 3 _⟩
    · have hkb : ((p.kind : Int) == 0) = false := by rw [beq_eq_false_iff_ne]; omega
      go_upto_region 5 with fail
      obtain ⟨wd, hwd⟩ : ∃ wd, wd = wa.drew := ⟨_, rfl⟩
      refine still_tail 10 (by kernel_rfl) (by kernel_rfl) wd hwd ?_
      simp only [List.take_succ_cons, List.take_zero, List.drop_succ_cons, List.drop_zero]
      have h1 : RdAt wd R l ps s (.func (.func f) #[] lb) sv lv := by rw [hwd]; exact ⟨h1.blk.drew, h1.list⟩
      have hg1 : w.grownBy wd (some R) := by rw [hwd]; exact grown_via hg1 ((Below.refl _ _).drew)
      have hq1 := hq1.drew
      rw [← hwd] at hq1
      clear hwd b0 b1 b2 b3 b4 b5 bf q0 q1 q2 q3 qf
      obtain ⟨b0, b1, b2, b3, b4, b5, bf⟩ := h1.blk.cells6
      obtain ⟨q0, q1, q2, q3, qf⟩ := hq1.cells4
      repeat still_step
      refine wpStill_nil ?_
      have hen := Hent.out
      have HK := Lib.hid (Hk.out wd hg1)
      unfold partV at HK
      go_wp2_with fail
      refine HK.out.mono ?_
      rintro e w2 ⟨rfl, hb2⟩
      have h2 := h1.below hb2
      have hg2 := grown_via hg1 hb2
      have hq2 := hq1.below hb2 hq1.lt
      clear h1 hg1 hq1 hb2 b0 b1 b2 b3 b4 b5 bf q0 q1 q2 q3 qf HK hen Hk Hent
      obtain ⟨b0, b1, b2, b3, b4, b5, bf⟩ := h2.blk.cells6
      obtain ⟨q0, q1, q2, q3, qf⟩ := hq2.cells4
      cases ndp
      · have Hr : Hid (takeP ps l.length nd s = ([], ⟨s.i, p.at_⟩)) := by show _ = _; rw [Ht.out, if_neg (show ¬ 0 ≤ s.wrong by omega), if_pos (.inr rfl)]
        go_wp2_with fail
        go_ret
        exact ⟨by rw [Hr.out]; rfl, by rw [Hr.out]; exact ⟨h2.blk.set_ 3 _, h2.list.kept (grown_set (grown_below (Below.refl _ _) _) 3 _) (.inr (own_blk_ne h2.list h2.blk (by decide)))⟩, grown_set hg2 3 _⟩
      · have Hz : Hid (¬ (p.kind = 0 ∨ true = false)) := by rintro (h | h); exact hk0 h; cases h
        by_cases hpw : 0 ≤ p.wrong
        · have Hr : Hid (takeP ps l.length nd s = ([], ⟨s.i, p.wrong⟩)) := by show _ = _; rw [Ht.out, if_neg (show ¬ 0 ≤ s.wrong by omega), if_neg Hz.out, if_pos hpw]
          go_wp2_with fail
          go_ret
          exact ⟨by rw [Hr.out]; rfl, by rw [Hr.out]; exact ⟨h2.blk.set_ 3 _, h2.list.kept (grown_set (grown_below (Below.refl _ _) _) 3 _) (.inr (own_blk_ne h2.list h2.blk (by decide)))⟩, grown_set hg2 3 _⟩
        · have Hr : Hid (takeP ps l.length nd s = (p.text, ⟨s.i + 1, s.wrong⟩)) := by show _ = _; rw [Ht.out, if_neg (show ¬ 0 ≤ s.wrong by omega), if_neg Hz.out, if_neg hpw]
          go_wp2_with fail
          go_ret
          exact ⟨by rw [Hr.out]; rfl, by rw [Hr.out]; exact ⟨h2.blk.set_ 2 _, h2.list.kept (grown_set (grown_below (Below.refl _ _) _) 2 _) (.inr (own_blk_ne h2.list h2.blk (by decide)))⟩, grown_set hg2 2 _⟩
end Go.Proofs.YtonnegkpjmhomaaGreatDoor
end
section
namespace Go.Proofs.YtonnegkpjmhomaaGreatDoor
open Go.RowKit
def Tabs (w : World) : Prop := Lib.TabIs Tryz.prog w "internal/strconv.uint64pow10" .u64 Lib.pow10Tab ∧ (∃ m : Int, w.cell? ⟨1, 0, none⟩ = some (.int .i64 m)) ∧ ∃ ev, w.cell? ⟨5, 0, none⟩ = some ev ∧ (ev = .nilIface ∨ ∃ te pe, ev = .iface te pe)
theorem cell_lt {w : World} {a : Addr} {v : Value} (h : w.cell? a = some v) : a.block < w.heap.size := World.block_lt_of_cell? w a h
theorem Tabs.keep {w w' : World} (h : Tabs w) (hb : ∀ g, (g = 1 ∨ g = 5 ∨ g = 2) → g < w.heap.size → w'.heap[g]? = w.heap[g]?) : Tabs w' := by
  obtain ⟨h1, ⟨m, hm⟩, ev, he, hv⟩ := h
  refine ⟨?_, ⟨m, ?_⟩, ev, ?_, hv⟩
  · unfold Lib.TabIs World.var? at *
    have hg : Tryz.prog.globalNamed "internal/strconv.uint64pow10" = some 2 := by kernel_rfl
    rw [hg] at h1 ⊢
    simp only [Option.bind_some] at h1 ⊢
    rcases Nat.lt_or_ge 2 w.heap.size with hl | hl
    · rw [hb _ (.inr (.inr rfl)) hl]; exact h1
    · rw [Array.getElem?_eq_none hl] at h1; cases h1
  · exact (World.cell?_of_block (hb _ (.inl rfl) (cell_lt hm))).trans hm
  · exact (World.cell?_of_block (hb _ (.inr (.inl rfl)) (cell_lt he))).trans he
theorem Tabs.below {w w' : World} (h : Tabs w) (hb : Below w.heap.size w w') : Tabs w' := h.keep (fun g _ hg => hb.block g hg)
def Far (R : Nat) : Prop := R ≠ 1 ∧ R ≠ 5 ∧ R ≠ 2
theorem Tabs.far {w : World} {R : Nat} (h : Tabs w) (hR : w.heap.size ≤ R) : Far R := by
  obtain ⟨h1, ⟨m, hm⟩, ev, he, hv⟩ := h
  have a1 := cell_lt hm
  have a2 := cell_lt he
  have a3 : 2 < w.heap.size := by
    unfold Lib.TabIs World.var? at h1
    have hg : Tryz.prog.globalNamed "internal/strconv.uint64pow10" = some 2 := by kernel_rfl
    rw [hg] at h1
    simp only [Option.bind_some] at h1
    rcases Nat.lt_or_ge 2 w.heap.size with hl | hl
    · exact hl
    · rw [Array.getElem?_eq_none hl] at h1; cases h1
  simp only [] at a1 a2
  exact ⟨by omega, by omega, by omega⟩
theorem Tabs.grown {w w' : World} {R : Nat} (h : Tabs w) (hR : Far R) (hb : w.grownBy w' (some R)) : Tabs w' :=
  h.keep (fun g h3 hg => hb.block g hg (by
    intro e; injection e with e; subst e
    rcases h3 with h | h | h
    · exact hR.1 h
    · exact hR.2.1 h
    · exact hR.2.2 h))
theorem decFrom_num (l : List UInt8) (acc : Nat) (h : ∀ b ∈ l, isD b = true) : Lib.decFrom acc l = some (l.foldl (fun n c => 10 * n + (c - 48).toNat) acc) := by
  induction l generalizing acc with
  | nil => rfl
  | cons b r ih =>
    have hb : 48 ≤ b.toNat ∧ b.toNat ≤ 57 := by have := h b (by simp); simpa [isD] using this
    unfold Lib.decFrom Lib.digitVal
    rw [if_pos hb, List.foldl_cons]
    have e : (b - 48).toNat = b.toNat - 48 := by
      rw [UInt8.toNat_sub_of_le _ _ (by rw [UInt8.le_iff_toNat_le]; exact hb.1)]; rfl
    rw [show 10 * acc + (b - 48).toNat = acc * 10 + (b.toNat - 48) by rw [e]; omega]
    exact ih _ (fun c hc => h c (by simp [hc]))
theorem atoi_num (l : List UInt8) (hne : l ≠ []) (h : ∀ b ∈ l, isD b = true) : Lib.atoi l = some (numV l : Int) := by
  cases l with
  | nil => exact absurd rfl hne
  | cons b r =>
    have hb : 48 ≤ b.toNat ∧ b.toNat ≤ 57 := by have := h b (by simp); simpa [isD] using this
    have h1 : (b == 45) = false := by rw [beq_eq_false_iff_ne]; intro e; subst e; simp at hb
    have h2 : (b == 43) = false := by rw [beq_eq_false_iff_ne]; intro e; subst e; simp at hb
    have h3 : Lib.decNat (b :: r) = some (numV (b :: r)) := by
      unfold Lib.decNat
      rw [if_neg (by simp)]
      exact decFrom_num _ _ h
    simp only [Lib.atoi, h1, h2, h3, Bool.false_eq_true, if_false, Option.map_some]
def OkP (ps : List Part) : Prop := ∀ p ∈ ps, ∃ i c r, p = nextP i (c :: r)
theorem okP_parts : ∀ (f i : Nat) (l : List UInt8), OkP (partsN f i l)
  | 0, _, _ => by intro p hp; cases hp
  | f + 1, i, l => by
    intro p hp
    unfold partsN at hp
    split at hp
    · cases hp
    · rename_i c r _
      simp only [] at hp
      split at hp
      · simp only [List.mem_singleton] at hp
        exact ⟨_, c, r, hp⟩
      · simp only [List.mem_cons] at hp
        rcases hp with rfl | hp
        · exact ⟨_, c, r, rfl⟩
        · exact okP_parts f _ _ p hp
theorem takeWhile_all (p : UInt8 → Bool) (l : List UInt8) : ∀ b ∈ l.takeWhile p, p b = true := List.all_eq_true.1 (List.all_takeWhile (l := l) (p := p))
theorem num_form {i : Nat} {c : UInt8} {r : List UInt8} (hk : (nextP i (c :: r)).kind = 2) (hw : (nextP i (c :: r)).wrong < 0) :
    (nextP i (c :: r)).text ≠ [] ∧ (∀ b ∈ (nextP i (c :: r)).text, isD b = true) ∧ (nextP i (c :: r)).text.length ≤ 3 := by
  have hp := nextP_pos i c r
  refine ⟨fun h => by rw [h] at hp; simp at hp, ?_, ?_⟩ <;> rw [nextP_cons] at hk hw ⊢
  · by_cases h1 : isL c = true
    · rw [if_pos h1] at hk; simp at hk
    · rw [if_neg h1] at hk ⊢
      by_cases h2 : isD c = true
      · rw [if_pos h2]; exact takeWhile_all _ _
      · rw [if_neg h2] at hk
        by_cases h3 : isS c = true
        · rw [if_pos h3] at hk; simp [isS] at h3; rcases h3 with rfl | rfl <;> simp at hk
        · rw [if_neg h3] at hk; simp at hk
  · by_cases h1 : isL c = true
    · rw [if_pos h1] at hk; simp at hk
    · rw [if_neg h1] at hk hw ⊢
      by_cases h2 : isD c = true
      · rw [if_pos h2] at hw ⊢
        simp only [] at hw ⊢
        split at hw
        · omega
        · split at hw <;> omega
      · rw [if_neg h2] at hk
        by_cases h3 : isS c = true
        · rw [if_pos h3] at hk; simp [isS] at h3; rcases h3 with rfl | rfl <;> simp at hk
        · rw [if_neg h3] at hk; simp at hk
theorem takeP_num {ps : List Part} {n : Nat} {s : St} (ho : OkP ps) : (takeP ps n isN s).1 = [] ∨ ((takeP ps n isN s).1 ≠ [] ∧ (∀ b ∈ (takeP ps n isN s).1, isD b = true) ∧ (takeP ps n isN s).1.length ≤ 3) := by
  unfold takeP
  split
  · exact .inl rfl
  · split
    · exact .inl rfl
    · rename_i hk
      split
      · exact .inl rfl
      · rename_i hw
        right
        simp only [not_or, Bool.not_eq_false] at hk
        by_cases hi : s.i < ps.length
        · have hm : lookP ps n s.i ∈ ps := by
            unfold lookP; rw [List.getD_eq_getElem?_getD, List.getElem?_eq_getElem hi]; exact List.getElem_mem _
          obtain ⟨i, c, r, hp⟩ := ho _ hm
          have hk2 : (lookP ps n s.i).kind = 2 := by have := hk.2; unfold isN at this; simpa using this
          rw [hp] at hk2 hw ⊢
          exact num_form hk2 (by omega)
        · exfalso
          apply hk.1
          unfold lookP; rw [List.getD_eq_getElem?_getD, List.getElem?_eq_none (by omega)]; rfl
theorem numV_lt (l : List UInt8) (h : ∀ b ∈ l, isD b = true) (hl : l.length ≤ 3) : numV l ≤ 999 := by
  have hd : ∀ b ∈ l, (b - 48).toNat ≤ 9 := fun b hb => by
    have : 48 ≤ b.toNat ∧ b.toNat ≤ 57 := by have := h b hb; simpa [isD] using this
    rw [UInt8.toNat_sub_of_le _ _ (by rw [UInt8.le_iff_toNat_le]; exact this.1)]
    show b.toNat - 48 ≤ 9
    omega
  unfold numV
  match l, hl, hd with
  | [], _, _ => simp
  | [a], _, hd => have := hd a (by simp); simp only [List.foldl_cons, List.foldl_nil]; omega
  | [a, b], _, hd => have := hd a (by simp); have := hd b (by simp); simp only [List.foldl_cons, List.foldl_nil]; omega
  | [a, b, c], _, hd => have := hd a (by simp); have := hd b (by simp); have := hd c (by simp); simp only [List.foldl_cons, List.foldl_nil]; omega
  | _ :: _ :: _ :: _ :: _, hl, _ => simp at hl
theorem Atoi_calls (l : List UInt8) (h : l = [] ∨ (l ≠ [] ∧ (∀ b ∈ l, isD b = true) ∧ l.length ≤ 3)) (w : World) (ht : Tabs w) :
    Calls Tryz.prog 126 #[.string (bs l)] w fun e w' => ∃ v, e = .returned (.tuple #[.int .i64 (numV l), v]) ∧ Below w.heap.size w w' := by
  rcases h with rfl | ⟨h1, h2, h3⟩
  · obtain ⟨_, _, ev, he, hv⟩ := ht
    exact (Tryz.strconv_Atoi_err (bs []) (by rw [bs_size]; simp) rfl ev w he hv).mono fun _ _ ⟨N, he, _, _, hb⟩ => ⟨_, he, hb⟩
  · exact (Tryz.strconv_Atoi (bs l) (numV l) (by rw [bs_size]; omega) (by rw [bs_list]; exact atoi_num l h1 h2) w).mono fun _ _ ⟨he, t, hw⟩ => ⟨_, he, by rw [hw]; exact Lib.bytesWorld_below _ _ _⟩
set_option maxRecDepth 100000 in
set_option maxHeartbeats 4000000 in
theorem number_calls (R : Nat) (hR20 : Far R) (l : List UInt8) (ps : List Part) (s : St) (nv sv lv : Value) (hps : ps.length ≤ 1000000) (ho : OkP ps) (w : World) (h : RdAt w R l ps s nv sv lv) (hi : s.i ≤ ps.length) (ht : Tabs w) :
    Calls Tryz.prog 87 #[.pointer (some ⟨R, 0, none⟩)] w fun e w' =>
      e = .returned (.int .i64 (numP ps l.length s).1) ∧ RdAt w' R l ps (numP ps l.length s).2 (.func (.func 127) #[] #[]) sv lv ∧ w.grownBy w' (some R) := by
  have HT := Lib.hid (take_calls 127 #[] (enters_of Tryz.func127 (by kernel_rfl) rfl) isN R l ps s nv sv lv hps w h (fun W _ => number1_calls _ W) hi)
  have Hn := Lib.hid (takeP_num (n := l.length) (s := s) ho)
  have Htab := Lib.hid ht
  clear ht h
  unfold numP
  generalize takeP ps l.length isN s = t at *
  go_enter Tryz.func87, Tryz.ntmps87
  go_wp2_with fail
  refine HT.out.mono ?_
  rintro e w1 ⟨rfl, h1, hg1⟩
  go_wp2_with fail
  refine (Atoi_calls _ Hn.out _ (Htab.out.grown hR20 hg1)).mono ?_
  rintro e w2 ⟨v, rfl, hb2⟩
  go_wp2_with fail
  go_ret
  exact ⟨rfl, h1.below hb2, grown_via hg1 hb2⟩
theorem begins_eq {p : Part} {t : List UInt8} : ((p.at_ : Int) == (p.at_ : Int) && ((p.kind : Int) == 1 && (bs p.text).toList == (bs t).toList)) = (p.kind == 1 && p.text == t) := by
  rw [bs_beq, beq_self_eq_true, Bool.true_and]
  congr 1
  rw [Bool.eq_iff_iff]; simp; omega
set_option maxRecDepth 100000 in
set_option maxHeartbeats 4000000 in
theorem begins_calls (R : Nat) (l : List UInt8) (ps : List Part) (s : St) (nv sv lv : Value) (t : List UInt8) (w : World) (h : RdAt w R l ps s nv sv lv) :
    Calls Tryz.prog 88 #[.pointer (some ⟨R, 0, none⟩), .string (bs t)] w fun e w' => e = .returned (.bool (beginsP ps l.length t s)) ∧ Below w.heap.size w w' := by
  have HL := Lib.hid (look_calls R l ps s nv sv lv w h)
  have hRl := h.blk.lt
  have Hb : Hid (beginsP ps l.length t s = (decide (s.wrong < 0) && ((lookP ps l.length s.i).kind == 1 && (lookP ps l.length s.i).text == t))) := rfl
  generalize lookP ps l.length s.i = p at *
  go_enter Tryz.func88, Tryz.ntmps88
  go_wp2_with fail
  refine HL.out.mono ?_
  rintro e w1 ⟨he, hb1⟩
  unfold partV at he
  subst he
  have hz1 := hb1.size
  have h1 := ((h.below hb1).below (below1 _ (.cells #[.int .i64 p.at_, .int .i64 p.kind, .string (bs p.text), .int .i64 p.wrong] 91))).blk
  obtain ⟨b0, b1, b2, b3, b4, b5, bf⟩ := h1.cells6
  have hbw := bt (below1 w1 (.cells #[.int .i64 p.at_, .int .i64 p.kind, .string (bs p.text), .int .i64 p.wrong] 91)) hb1 hb1.size
  by_cases hw : s.wrong < 0
  · rw [decide_eq_true hw, Bool.true_and] at Hb
    rw [← begins_eq] at Hb
    obtain ⟨b, HE⟩ : ∃ b, Hid (((p.at_ : Int) == (p.at_ : Int) && ((p.kind : Int) == 1 && (bs p.text).toList == (bs t).toList)) = b) := ⟨_, rfl⟩
    rw [HE.out] at Hb
    go_wp2_with fail
    · obtain rfl : b = true := by rw [← HE.out]; simp [*]
      go_ret
      exact ⟨by rw [Hb.out]; rfl, bt (below1 _ _) hb1 hb1.size⟩
    · obtain rfl : b = false := by rw [← HE.out]; simp [*]
      go_ret
      exact ⟨by rw [Hb.out]; rfl, bt (below1 _ _) hb1 hb1.size⟩
    · obtain rfl : b = false := by rw [← HE.out]; simp [*]
      go_ret
      exact ⟨by rw [Hb.out]; rfl, hbw⟩
  · rw [decide_eq_false hw, Bool.false_and] at Hb
    go_wp2_with fail
    go_ret
    exact ⟨by rw [Hb.out]; rfl, hbw⟩
end Go.Proofs.YtonnegkpjmhomaaGreatDoor
end
