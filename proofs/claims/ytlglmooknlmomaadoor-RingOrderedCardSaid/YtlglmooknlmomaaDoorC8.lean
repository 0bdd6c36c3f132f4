import Derived.RangeFuncNested
import Derived.RangeFuncBound
import Derived.RangeFuncCalls
import Derived.RangeFuncLeaves
import Derived.Shelf.Abstract
import Derived.Shelf.RegionOpen
import Derived.WalkKit
import Derived.OwnWalkIn
import Derived.TacticsInMore
import Derived.LoopNIn
import Derived.LoopIn
import Derived.Test.YtlglmooknlmomaaDoorC5
import Derived.Test.YtlglmooknlmomaaDoorC6
import Derived.Test.YtlglmooknlmomaaDoorC7
set_option linter.all false
section
namespace Go.Proofs.YtlglmooknlmomaaDoor
open Go.RowKit Go.Shelf
attribute [local go_sem] Oper.semAt_some
def omP (i : Nat) : Pt :=
  match i with
  | 0 => ⟨1, 0, 0, 0⟩ | 1 => ⟨0, 1, 0, 0⟩ | 2 => ⟨0, 0, 1, 0⟩ | 3 => ⟨0, 0, 0, 1⟩
  | 4 => ⟨-1, 0, 0, 0⟩ | 5 => ⟨0, -1, 0, 0⟩ | 6 => ⟨0, 0, -1, 0⟩ | _ => ⟨0, 0, 0, -1⟩
abbrev encO (x : Fin 8) : Array Value := #[.int .i64 (x.val : Int), .agg #[.int .i64 (omP x.val).a, .int .i64 (omP x.val).b, .int .i64 (omP x.val).c, .int .i64 (omP x.val).d, .int .i64 0]]
def upto8 (k : Nat) : List (Fin 8) := (List.finRange 8).take k
theorem below_grown {w w' : World} (h : Below w.heap.size w w') : w.grownBy w' none :=
  ⟨h.os, h.tape, h.output, h.size, fun k hk _ => h.block k hk⟩
set_option maxHeartbeats 400000 in
theorem powers_calls (w : World) : Calls Tryd.prog 79 #[] w fun e w' => e = .returned (.func (.func 96) #[] #[]) ∧ w' = w := by
  go_enter Tryd.func79, Tryd.ntmps79
  go_wp2
  go_ret
  exact ⟨rfl, rfl⟩
set_option maxRecDepth 100000 in
set_option maxHeartbeats 2000000 in
theorem powers1_stops (n : Nat) (hn : 1 ≤ n) (n₀ : Nat) (w : World) :
    SeqStopsK Fence.wide n Tryd.prog 96 #[] encO (Below n₀) (fun xs => xs = upto8 8) (fun pre => ∃ k, k ≤ 8 ∧ pre = upto8 k) 8 w := fun l J Jx W hW hJ _ hY h0 => by
  refine callsIn_of_wp Tryd.func96 rfl trivial ?_
  simp only [Tryd.ntmps96, List.size_toArray, List.length_cons, List.length_nil, Nat.reduceAdd, Nat.reduceSub, Array.replicate_succ, Array.replicate_zero, List.push_toArray, List.append_toArray, List.nil_append, List.cons_append]
  gi_wp2
  gi_loopw [4] (fun i wr => ∃ k : Nat, k ≤ 8 ∧ i = .int .i64 k ∧ J (upto8 k) wr)
    (fun i _ => 8 - (intOf i).toNat)
  case atStart => exact ⟨0, by omega, rfl, h0⟩
  case round =>
    obtain ⟨k, hk, rfl, hJs⟩ := hrel
    rcases Nat.lt_or_ge k 8 with hlt | hge
    · match k, hlt with
      | 0, _ =>
        gi_wp2
        refine ⟨trivial, callsIn_wide.2 ((of_calls _ _ _ _ _ _).mono ?_)⟩
        rintro e w1 ⟨rfl, hb1⟩
        have hJ1 : J (upto8 0) w1 := hJ _ _ _ none hJs (below_grown (bt hb1 ((Below.refl wr.heap.size wr).alloc (Nat.le_refl _) _) (by simp))) (fun r e => by cases e)
        clear hb1
        obtain ⟨fn, tmps, assign, body, hy, hR⟩ := hY (upto8 0) ⟨0, by decide⟩ w1 hJ1 (by decide)
        have hy : (Instr.yield l #[.int .i64 0, .agg #[.int .i64 (1), .int .i64 (0), .int .i64 (0), .int .i64 (0), .int .i64 0]]).run Tryd.prog w1 = .ok (.round l fn tmps assign body) w1 := hy
        gi_wp2
        refine hR.mono ?_
        rintro e W3 (⟨rfl, hJ3, hk3⟩ | ⟨rfl, hJx3⟩)
        · gi_wp2
          go_roundw
          case rel => exact ⟨1, by omega, by simp, hJ3⟩
          case measure => simp [intOf]
        · gi_wp2
          refine bodyPost_ret (results_none rfl _ _ _) rfl ?_
          exact ⟨⟨_, rfl⟩, .inr ⟨upto8 1, ⟨1, by omega, rfl⟩, hJx3⟩⟩
      | 1, _ =>
        gi_wp2
        refine ⟨trivial, callsIn_wide.2 ((of_calls _ _ _ _ _ _).mono ?_)⟩
        rintro e w1 ⟨rfl, hb1⟩
        have hJ1 : J (upto8 1) w1 := hJ _ _ _ none hJs (below_grown (bt hb1 ((Below.refl wr.heap.size wr).alloc (Nat.le_refl _) _) (by simp))) (fun r e => by cases e)
        clear hb1
        obtain ⟨fn, tmps, assign, body, hy, hR⟩ := hY (upto8 1) ⟨1, by decide⟩ w1 hJ1 (by decide)
        have hy : (Instr.yield l #[.int .i64 1, .agg #[.int .i64 (0), .int .i64 (1), .int .i64 (0), .int .i64 (0), .int .i64 0]]).run Tryd.prog w1 = .ok (.round l fn tmps assign body) w1 := hy
        gi_wp2
        refine hR.mono ?_
        rintro e W3 (⟨rfl, hJ3, hk3⟩ | ⟨rfl, hJx3⟩)
        · gi_wp2
          go_roundw
          case rel => exact ⟨2, by omega, by simp, hJ3⟩
          case measure => simp [intOf]
        · gi_wp2
          refine bodyPost_ret (results_none rfl _ _ _) rfl ?_
          exact ⟨⟨_, rfl⟩, .inr ⟨upto8 2, ⟨2, by omega, rfl⟩, hJx3⟩⟩
      | 2, _ =>
        gi_wp2
        refine ⟨trivial, callsIn_wide.2 ((of_calls _ _ _ _ _ _).mono ?_)⟩
        rintro e w1 ⟨rfl, hb1⟩
        have hJ1 : J (upto8 2) w1 := hJ _ _ _ none hJs (below_grown (bt hb1 ((Below.refl wr.heap.size wr).alloc (Nat.le_refl _) _) (by simp))) (fun r e => by cases e)
        clear hb1
        obtain ⟨fn, tmps, assign, body, hy, hR⟩ := hY (upto8 2) ⟨2, by decide⟩ w1 hJ1 (by decide)
        have hy : (Instr.yield l #[.int .i64 2, .agg #[.int .i64 (0), .int .i64 (0), .int .i64 (1), .int .i64 (0), .int .i64 0]]).run Tryd.prog w1 = .ok (.round l fn tmps assign body) w1 := hy
        gi_wp2
        refine hR.mono ?_
        rintro e W3 (⟨rfl, hJ3, hk3⟩ | ⟨rfl, hJx3⟩)
        · gi_wp2
          go_roundw
          case rel => exact ⟨3, by omega, by simp, hJ3⟩
          case measure => simp [intOf]
        · gi_wp2
          refine bodyPost_ret (results_none rfl _ _ _) rfl ?_
          exact ⟨⟨_, rfl⟩, .inr ⟨upto8 3, ⟨3, by omega, rfl⟩, hJx3⟩⟩
      | 3, _ =>
        gi_wp2
        refine ⟨trivial, callsIn_wide.2 ((of_calls _ _ _ _ _ _).mono ?_)⟩
        rintro e w1 ⟨rfl, hb1⟩
        have hJ1 : J (upto8 3) w1 := hJ _ _ _ none hJs (below_grown (bt hb1 ((Below.refl wr.heap.size wr).alloc (Nat.le_refl _) _) (by simp))) (fun r e => by cases e)
        clear hb1
        obtain ⟨fn, tmps, assign, body, hy, hR⟩ := hY (upto8 3) ⟨3, by decide⟩ w1 hJ1 (by decide)
        have hy : (Instr.yield l #[.int .i64 3, .agg #[.int .i64 (0), .int .i64 (0), .int .i64 (0), .int .i64 (1), .int .i64 0]]).run Tryd.prog w1 = .ok (.round l fn tmps assign body) w1 := hy
        gi_wp2
        refine hR.mono ?_
        rintro e W3 (⟨rfl, hJ3, hk3⟩ | ⟨rfl, hJx3⟩)
        · gi_wp2
          go_roundw
          case rel => exact ⟨4, by omega, by simp, hJ3⟩
          case measure => simp [intOf]
        · gi_wp2
          refine bodyPost_ret (results_none rfl _ _ _) rfl ?_
          exact ⟨⟨_, rfl⟩, .inr ⟨upto8 4, ⟨4, by omega, rfl⟩, hJx3⟩⟩
      | 4, _ =>
        gi_wp2
        refine ⟨trivial, callsIn_wide.2 ((of_calls _ _ _ _ _ _).mono ?_)⟩
        rintro e w1 ⟨rfl, hb1⟩
        have hJ1 : J (upto8 4) w1 := hJ _ _ _ none hJs (below_grown (bt hb1 ((Below.refl wr.heap.size wr).alloc (Nat.le_refl _) _) (by simp))) (fun r e => by cases e)
        clear hb1
        obtain ⟨fn, tmps, assign, body, hy, hR⟩ := hY (upto8 4) ⟨4, by decide⟩ w1 hJ1 (by decide)
        have hy : (Instr.yield l #[.int .i64 4, .agg #[.int .i64 (-1), .int .i64 (0), .int .i64 (0), .int .i64 (0), .int .i64 0]]).run Tryd.prog w1 = .ok (.round l fn tmps assign body) w1 := hy
        gi_wp2
        refine hR.mono ?_
        rintro e W3 (⟨rfl, hJ3, hk3⟩ | ⟨rfl, hJx3⟩)
        · gi_wp2
          go_roundw
          case rel => exact ⟨5, by omega, by simp, hJ3⟩
          case measure => simp [intOf]
        · gi_wp2
          refine bodyPost_ret (results_none rfl _ _ _) rfl ?_
          exact ⟨⟨_, rfl⟩, .inr ⟨upto8 5, ⟨5, by omega, rfl⟩, hJx3⟩⟩
      | 5, _ =>
        gi_wp2
        refine ⟨trivial, callsIn_wide.2 ((of_calls _ _ _ _ _ _).mono ?_)⟩
        rintro e w1 ⟨rfl, hb1⟩
        have hJ1 : J (upto8 5) w1 := hJ _ _ _ none hJs (below_grown (bt hb1 ((Below.refl wr.heap.size wr).alloc (Nat.le_refl _) _) (by simp))) (fun r e => by cases e)
        clear hb1
        obtain ⟨fn, tmps, assign, body, hy, hR⟩ := hY (upto8 5) ⟨5, by decide⟩ w1 hJ1 (by decide)
        have hy : (Instr.yield l #[.int .i64 5, .agg #[.int .i64 (0), .int .i64 (-1), .int .i64 (0), .int .i64 (0), .int .i64 0]]).run Tryd.prog w1 = .ok (.round l fn tmps assign body) w1 := hy
        gi_wp2
        refine hR.mono ?_
        rintro e W3 (⟨rfl, hJ3, hk3⟩ | ⟨rfl, hJx3⟩)
        · gi_wp2
          go_roundw
          case rel => exact ⟨6, by omega, by simp, hJ3⟩
          case measure => simp [intOf]
        · gi_wp2
          refine bodyPost_ret (results_none rfl _ _ _) rfl ?_
          exact ⟨⟨_, rfl⟩, .inr ⟨upto8 6, ⟨6, by omega, rfl⟩, hJx3⟩⟩
      | 6, _ =>
        gi_wp2
        refine ⟨trivial, callsIn_wide.2 ((of_calls _ _ _ _ _ _).mono ?_)⟩
        rintro e w1 ⟨rfl, hb1⟩
        have hJ1 : J (upto8 6) w1 := hJ _ _ _ none hJs (below_grown (bt hb1 ((Below.refl wr.heap.size wr).alloc (Nat.le_refl _) _) (by simp))) (fun r e => by cases e)
        clear hb1
        obtain ⟨fn, tmps, assign, body, hy, hR⟩ := hY (upto8 6) ⟨6, by decide⟩ w1 hJ1 (by decide)
        have hy : (Instr.yield l #[.int .i64 6, .agg #[.int .i64 (0), .int .i64 (0), .int .i64 (-1), .int .i64 (0), .int .i64 0]]).run Tryd.prog w1 = .ok (.round l fn tmps assign body) w1 := hy
        gi_wp2
        refine hR.mono ?_
        rintro e W3 (⟨rfl, hJ3, hk3⟩ | ⟨rfl, hJx3⟩)
        · gi_wp2
          go_roundw
          case rel => exact ⟨7, by omega, by simp, hJ3⟩
          case measure => simp [intOf]
        · gi_wp2
          refine bodyPost_ret (results_none rfl _ _ _) rfl ?_
          exact ⟨⟨_, rfl⟩, .inr ⟨upto8 7, ⟨7, by omega, rfl⟩, hJx3⟩⟩
      | 7, _ =>
        gi_wp2
        refine ⟨trivial, callsIn_wide.2 ((of_calls _ _ _ _ _ _).mono ?_)⟩
        rintro e w1 ⟨rfl, hb1⟩
        have hJ1 : J (upto8 7) w1 := hJ _ _ _ none hJs (below_grown (bt hb1 ((Below.refl wr.heap.size wr).alloc (Nat.le_refl _) _) (by simp))) (fun r e => by cases e)
        clear hb1
        obtain ⟨fn, tmps, assign, body, hy, hR⟩ := hY (upto8 7) ⟨7, by decide⟩ w1 hJ1 (by decide)
        have hy : (Instr.yield l #[.int .i64 7, .agg #[.int .i64 (0), .int .i64 (0), .int .i64 (0), .int .i64 (-1), .int .i64 0]]).run Tryd.prog w1 = .ok (.round l fn tmps assign body) w1 := hy
        gi_wp2
        refine hR.mono ?_
        rintro e W3 (⟨rfl, hJ3, hk3⟩ | ⟨rfl, hJx3⟩)
        · gi_wp2
          go_roundw
          case rel => exact ⟨8, by omega, by simp, hJ3⟩
          case measure => simp [intOf]
        · gi_wp2
          refine bodyPost_ret (results_none rfl _ _ _) rfl ?_
          exact ⟨⟨_, rfl⟩, .inr ⟨upto8 8, ⟨8, by omega, rfl⟩, hJx3⟩⟩
    · obtain rfl : k = 8 := by omega
      gi_wp2
      go_end0
      exact ⟨⟨_, rfl⟩, .inl ⟨_, rfl, hJs⟩⟩
end Go.Proofs.YtlglmooknlmomaaDoor
end
section
namespace Go.Proofs.YtlglmooknlmomaaDoor
open Go.RowKit Go.Shelf
attribute [local go_sem] Oper.semAt_some
attribute [local go_sem high] eqNum
theorem blk_own {β : Type} (B : Nat) (t : TypeId) (cs : Array Value) : Own (fun (_ : β) W => Blk W B t cs) := fun s X Y row hs hg hrow =>
  (hg.block B hs.lt (fun e' => by obtain ⟨_, ho, hc⟩ := hrow B e'.symm; rw [show X.heap[B]? = _ from hs] at ho; cases ho; cases hc)).trans hs
theorem below_keeps {B : Nat} {W W' : World} (h : Below W.heap.size W W') : KeepsFrom B W W' := ⟨h.size, fun k _ _ hk _ => (h.block k (Array.getElem?_eq_some_iff.1 hk).1).trans hk⟩
def phHit (a b : Nm) (i : Fin 8) : Bool := eqNm (sMul ⟨omP i.val, 0⟩ b).1 a
def phR (a b : Nm) : Int × Int := match (upto8 8).find? (phHit a b) with | some i => ((i.val : Int), 0) | none => (0, 6)
def nmOf (r : Pt × Nat) : Nm := ⟨r.1, r.2⟩
def sPhase (x z : Nm) : Int × Int := if chks [x, z] = 0 then phR (nmOf (Pt.red x.k.toNat x.p)) (nmOf (Pt.red z.k.toNat z.p)) else (0, chks [x, z])
set_option maxRecDepth 100000 in
set_option maxHeartbeats 4000000 in
theorem Phase_calls (x z : Nm) (w : World) :
    Calls Tryd.prog 40 #[.agg #[.int .i64 x.p.a, .int .i64 x.p.b, .int .i64 x.p.c, .int .i64 x.p.d, .int .i64 x.k], .agg #[.int .i64 z.p.a, .int .i64 z.p.b, .int .i64 z.p.c, .int .i64 z.p.d, .int .i64 z.k]] w fun e w' => ∃ (r er : Int), e = .returned (.tuple #[.int .i64 r, .int .i64 er]) ∧ sPhase x z = (r, er) ∧ Below w.heap.size w w' := by
  obtain ⟨n, hn⟩ : ∃ n : Int, chks [x, z] = n := ⟨_, rfl⟩
  have Hn := Lib.hid hn
  clear hn
  refine (callsIn_wide (n := 3)).1 ?_
  refine callsIn_of_wp_marks Tryd.func40 rfl trivial ?_
  simp only [Tryd.ntmps40, List.size_toArray, List.length_cons, List.length_nil, Nat.reduceAdd, Nat.reduceSub, Array.replicate_succ, Array.replicate_zero, List.push_toArray, List.append_toArray, List.nil_append, List.cons_append]
  gi_wp2
  refine ⟨trivial, callsIn_wide.2 ((checks_calls [x, z] _ _ (by simp) _ (by simp) (rowAt_two (Blk.at_ ((((w.alloc _).alloc _).alloc _).alloc _) _ _ (by simp)))).mono ?_)⟩
  rintro e w1 ⟨rfl, hb1⟩
  rw [Hn.out]
  have hx1 : Blk w1 w.heap.size 23 #[.int .i64 x.p.a, .int .i64 x.p.b, .int .i64 x.p.c, .int .i64 x.p.d, .int .i64 x.k] := Blk.below (Blk.alloc (Blk.alloc (Blk.alloc (Blk.alloc (Blk.new w _ _) _) _) _) _) hb1 (by simp <;> omega)
  have hy1 : Blk w1 (w.heap.size + 1) 23 #[.int .i64 z.p.a, .int .i64 z.p.b, .int .i64 z.p.c, .int .i64 z.p.d, .int .i64 z.k] := Blk.below (Blk.alloc (Blk.alloc (Blk.alloc (Blk.at_ (w.alloc _) _ _ (by simp)) _) _) _) hb1 (by simp <;> omega)
  have hr1 : Blk w1 (w.heap.size + 2) 3 #[.int .i64 0] := Blk.below (Blk.alloc (Blk.alloc (Blk.at_ ((w.alloc _).alloc _) _ _ (by simp)) _) _) hb1 (by simp <;> omega)
  have he1 : Blk w1 (w.heap.size + 3) 24 #[.int .i64 0] := Blk.below (Blk.alloc (Blk.at_ (((w.alloc _).alloc _).alloc _) _ _ (by simp)) _) hb1 (by simp <;> omega)
  have hbw1 : Below w.heap.size w w1 := bt hb1 (((below3 _ _ _ _).alloc (by simp <;> omega) _).alloc (by simp <;> omega) _) (by simp <;> omega)
  clear hb1
  have hz1 := he1.lt
  by_cases h0 : n = 0
  · obtain ⟨hcx, hcz⟩ := chks_two (Hn.out.trans h0)
    obtain ⟨hlx, hkx0, hkx1⟩ := Nm.chk_ok hcx
    obtain ⟨hlz, hkz0, hkz1⟩ := Nm.chk_ok hcz
    have Hs : Hid (sPhase x z = phR (nmOf (Pt.red x.k.toNat x.p)) (nmOf (Pt.red z.k.toNat z.p))) := by show _ = _; unfold sPhase; rw [if_pos (Hn.out.trans h0)]
    have HR1 := Lib.hid (okN_red hcx)
    have HR2 := Lib.hid (okN_red hcz)
    clear hcx hcz
    obtain ⟨k, hk⟩ : ∃ k : Nat, x.k = k := ⟨x.k.toNat, by omega⟩
    obtain ⟨l, hl⟩ : ∃ l : Nat, z.k = l := ⟨z.k.toNat, by omega⟩
    have HL1 := Lib.hid (fun W => least_nm x.p k 81 (Pt.sm_mono (Pt.le_sm hlx) (by omega)) (by omega) W)
    have HL2 := Lib.hid (fun W => least_nm z.p l 81 (Pt.sm_mono (Pt.le_sm hlz) (by omega)) (by omega) W)
    rw [← hk] at HL1
    rw [← hl] at HL2
    have Hk : Hid (x.k.toNat = k ∧ z.k.toNat = l) := ⟨by omega, by omega⟩
    subst h0
    clear hk hl hlx hlz hkx0 hkx1 hkz0 hkz1 Hn
    obtain ⟨x0, x1, x2, x3, x4, xf⟩ := hx1.cells5
    gi_wp2
    refine ⟨trivial, callsIn_wide.2 ((work_calls _ _ _ _ _ _).mono ?_)⟩
    rintro e w1 ⟨rfl, hb1⟩
    have hy1 := hy1.below hb1 hy1.lt
    have hr1 := hr1.below hb1 hr1.lt
    have he1 := he1.below hb1 he1.lt
    have hbw1 := bt hb1 hbw1 hbw1.size
    clear hb1
    clear hx1 x0 x1 x2 x3 x4 xf
    gi_wp2
    refine ⟨trivial, callsIn_wide.2 ((HL1.out _).mono ?_)⟩
    rintro e w1 ⟨a, ea, rfl, ha, hb1⟩
    have hy1 := hy1.below hb1 hy1.lt
    have hr1 := hr1.below hb1 hr1.lt
    have he1 := he1.below hb1 he1.lt
    have hbw1 := bt hb1 hbw1 hbw1.size
    clear hb1
    have Ha : Hid (nmOf (Pt.red x.k.toNat x.p) = a) := by
      have h := HR1.out; rw [Hk.out.1, ha] at h; injection h with h _; rw [Hk.out.1]; exact h.symm
    clear ha
    have hz1 := he1.lt
    obtain ⟨y0, y1, y2, y3, y4, yf⟩ := (hy1.alloc (.cells #[.int .i64 a.p.a, .int .i64 a.p.b, .int .i64 a.p.c, .int .i64 a.p.d, .int .i64 a.k] 23)).cells5
    generalize hA0 : w1.heap.size = A at *
    have hA1 := Blk.at_ w1 23 #[.int .i64 a.p.a, .int .i64 a.p.b, .int .i64 a.p.c, .int .i64 a.p.d, .int .i64 a.k] hA0
    have hr1 := hr1.alloc (.cells #[.int .i64 a.p.a, .int .i64 a.p.b, .int .i64 a.p.c, .int .i64 a.p.d, .int .i64 a.k] 23)
    have he1 := he1.alloc (.cells #[.int .i64 a.p.a, .int .i64 a.p.b, .int .i64 a.p.c, .int .i64 a.p.d, .int .i64 a.k] 23)
    have hbw1 := hbw1.alloc (by omega) (.cells #[.int .i64 a.p.a, .int .i64 a.p.b, .int .i64 a.p.c, .int .i64 a.p.d, .int .i64 a.k] 23)
    gi_wp2
    refine ⟨trivial, callsIn_wide.2 ((work_calls _ _ _ _ _ _).mono ?_)⟩
    rintro e w1 ⟨rfl, hb1⟩
    have hA1 := hA1.below hb1 hA1.lt
    have hr1 := hr1.below hb1 hr1.lt
    have he1 := he1.below hb1 he1.lt
    have hbw1 := bt hb1 hbw1 hbw1.size
    clear hb1
    clear y0 y1 y2 y3 y4 yf hy1
    gi_wp2
    refine ⟨trivial, callsIn_wide.2 ((HL2.out _).mono ?_)⟩
    rintro e w1 ⟨b, eb, rfl, hb, hb1⟩
    have hA1 := hA1.below hb1 hA1.lt
    have hr1 := hr1.below hb1 hr1.lt
    have he1 := he1.below hb1 he1.lt
    have hbw1 := bt hb1 hbw1 hbw1.size
    clear hb1
    have Hb : Hid (nmOf (Pt.red z.k.toNat z.p) = b) := by
      have h := HR2.out; rw [Hk.out.2, hb] at h; injection h with h _; rw [Hk.out.2]; exact h.symm
    clear hb
    have Hs : Hid (sPhase x z = phR a b) := by show _ = _; rw [Hs.out, Ha.out, Hb.out]
    clear Ha Hb HR1 HR2 HL1 HL2 Hk
    have hz2 := hA1.lt
    generalize hB0 : w1.heap.size = B at *
    have hB1 := Blk.at_ w1 23 #[.int .i64 b.p.a, .int .i64 b.p.b, .int .i64 b.p.c, .int .i64 b.p.d, .int .i64 b.k] hB0
    have hA1 := hA1.alloc (.cells #[.int .i64 b.p.a, .int .i64 b.p.b, .int .i64 b.p.c, .int .i64 b.p.d, .int .i64 b.k] 23)
    have hr1 := hr1.alloc (.cells #[.int .i64 b.p.a, .int .i64 b.p.b, .int .i64 b.p.c, .int .i64 b.p.d, .int .i64 b.k] 23)
    have he1 := he1.alloc (.cells #[.int .i64 b.p.a, .int .i64 b.p.b, .int .i64 b.p.c, .int .i64 b.p.d, .int .i64 b.k] 23)
    have hbw1 := hbw1.alloc (by omega) (.cells #[.int .i64 b.p.a, .int .i64 b.p.b, .int .i64 b.p.c, .int .i64 b.p.d, .int .i64 b.k] 23)
    gi_wp2
    refine ⟨trivial, callsIn_wide.2 ((powers_calls _).mono ?_)⟩
    rintro e w2 ⟨rfl, rfl⟩
    generalize w1.alloc (.cells #[.int .i64 b.p.a, .int .i64 b.p.b, .int .i64 b.p.c, .int .i64 b.p.d, .int .i64 b.k] 23) = W0 at *
    gi_wp2
    refine wpIn_rangeFunc_ownH rfl (by omega) (gf := 96) (lb := #[]) rfl trivial (enters_of Tryd.func96 (by kernel_rfl) rfl)
      (powers1_stops 2 (by omega) w.heap.size W0) belowK_t (belowK_b hbw1.size) (Below.refl _ _) (fun _ => rfl)
      (fun pre W => ((((pre.find? (phHit a b) = none ∧ Blk W (w.heap.size + 2) 3 #[.int .i64 0]) ∧ Blk W (w.heap.size + 3) 24 #[.int .i64 0]) ∧ Blk W A 23 #[.int .i64 a.p.a, .int .i64 a.p.b, .int .i64 a.p.c, .int .i64 a.p.d, .int .i64 a.k]) ∧ Blk W B 23 #[.int .i64 b.p.a, .int .i64 b.p.b, .int .i64 b.p.c, .int .i64 b.p.d, .int .i64 b.k]) ∧ Below w.heap.size w W)
      (fun c pre W => (∃ i : Fin 8, (c = .ret ∧ pre.find? (phHit a b) = some i) ∧ Blk W (w.heap.size + 2) 3 #[.int .i64 (i.val : Int)] ∧ Blk W (w.heap.size + 3) 24 #[.int .i64 0]) ∧ Below w.heap.size w W)
      (OwnFrom.and (OwnFrom.and (OwnFrom.and (OwnFrom.and (OwnFrom.and (ownFrom_pure _ _) (Own.from (blk_own _ _ _) _)) (Own.from (blk_own _ _ _) _)) (Own.from (blk_own _ _ _) _)) (Own.from (blk_own _ _ _) _)) (ownFrom_below (Nat.le_refl _) hbw1.size))
      (fun c => OwnFrom.and (fun s X Y row hs hg hr => by
        obtain ⟨i, h1, h2, h3⟩ := hs
        exact ⟨i, h1, Own.from (blk_own _ _ _) _ () X Y row h2 hg hr, Own.from (blk_own _ _ _) _ () X Y row h3 hg hr⟩) (ownFrom_below (Nat.le_refl _) hbw1.size))
      ⟨⟨⟨⟨⟨rfl, hr1⟩, he1⟩, hA1⟩, hB1⟩, hbw1⟩
      (fun x' a' W => ∃ Bx, B < Bx ∧ Blk W Bx 23 #[.int .i64 (omP x'.val).a, .int .i64 (omP x'.val).b, .int .i64 (omP x'.val).c, .int .i64 (omP x'.val).d, .int .i64 0] ∧ a' = { tmps := #[.agg #[.int .i64 x.p.a, .int .i64 x.p.b, .int .i64 x.p.c, .int .i64 x.p.d, .int .i64 x.k], .agg #[.int .i64 z.p.a, .int .i64 z.p.b, .int .i64 z.p.c, .int .i64 z.p.d, .int .i64 z.k], .pointer (some ⟨w.heap.size, 0, none⟩), .pointer (some ⟨w.heap.size + 1, 0, none⟩), .pointer (some ⟨w.heap.size + 1 + 1, 0, none⟩), .pointer (some ⟨w.heap.size + 1 + 1 + 1, 0, none⟩), .int .i64 0, .pointer (some ⟨A, 0, none⟩), .int .i64 ea, .pointer (some ⟨B, 0, none⟩), .int .i64 eb, .int .i64 (x'.val : Int), .pointer (some ⟨Bx, 0, none⟩), undef, undef, .agg #[.int .i64 x.p.a, .int .i64 x.p.b, .int .i64 x.p.c, .int .i64 x.p.d, .int .i64 x.k], .agg #[.int .i64 z.p.a, .int .i64 z.p.b, .int .i64 z.p.c, .int .i64 z.p.d, .int .i64 z.k], .slice (some ⟨w.heap.size + 1 + 1 + 1 + 1, 0, none⟩) 2 2, .int .i64 0, .int .i64 0, .bool false, undef, .tuple #[.agg #[.int .i64 a.p.a, .int .i64 a.p.b, .int .i64 a.p.c, .int .i64 a.p.d, .int .i64 a.k], .int .i64 ea], .agg #[.int .i64 x.p.a, .int .i64 x.p.b, .int .i64 x.p.c, .int .i64 x.p.d, .int .i64 x.k], .agg #[.int .i64 x.p.a, .int .i64 x.p.b, .int .i64 x.p.c, .int .i64 x.p.d, .int .i64 x.k, .func (.func 81) #[] #[]], .tuple #[.agg #[.int .i64 a.p.a, .int .i64 a.p.b, .int .i64 a.p.c, .int .i64 a.p.d, .int .i64 a.k], .int .i64 ea], .agg #[.int .i64 a.p.a, .int .i64 a.p.b, .int .i64 a.p.c, .int .i64 a.p.d, .int .i64 a.k], .int .i64 ea, .tuple #[.agg #[.int .i64 b.p.a, .int .i64 b.p.b, .int .i64 b.p.c, .int .i64 b.p.d, .int .i64 b.k], .int .i64 eb], .agg #[.int .i64 z.p.a, .int .i64 z.p.b, .int .i64 z.p.c, .int .i64 z.p.d, .int .i64 z.k], .agg #[.int .i64 z.p.a, .int .i64 z.p.b, .int .i64 z.p.c, .int .i64 z.p.d, .int .i64 z.k, .func (.func 81) #[] #[]], .tuple #[.agg #[.int .i64 b.p.a, .int .i64 b.p.b, .int .i64 b.p.c, .int .i64 b.p.d, .int .i64 b.k], .int .i64 eb], .agg #[.int .i64 b.p.a, .int .i64 b.p.b, .int .i64 b.p.c, .int .i64 b.p.d, .int .i64 b.k], .int .i64 eb, .func (.func 96) #[] #[], .int .i64 (x'.val : Int), .agg #[.int .i64 (omP x'.val).a, .int .i64 (omP x'.val).b, .int .i64 (omP x'.val).c, .int .i64 (omP x'.val).d, .int .i64 0], undef, undef, undef, undef, undef, undef, undef, undef, undef, undef], defers := [] })
      (fun x' a' s X Y row hs hg hr => by obtain ⟨Bx, e1, e2, e3⟩ := hs; exact ⟨Bx, e1, Own.from (blk_own _ _ _) _ () X Y row e2 hg hr, e3⟩)
      ?assign ?body ?done ?stop
    case assign =>
      rintro l pre x' W K ⟨⟨⟨⟨⟨hp, hr2⟩, he2⟩, hA2⟩, hB2⟩, hbw2⟩ hK
      gi_wp2
      exact hK _ _ ((KeepsOthers.alloc _ _).from _) ((Below.refl _ W).alloc hbw2.size _) ⟨⟨⟨⟨⟨hp, hr2.alloc _⟩, he2.alloc _⟩, hA2.alloc _⟩, hB2.alloc _⟩, hbw2.alloc hbw2.size _⟩ ⟨W.heap.size, hB2.lt, Blk.new _ _ _, rfl⟩
    case body =>
      rintro l pre x' a' W hl ⟨r, hr⟩ ⟨⟨⟨⟨⟨hp, hr2⟩, he2⟩, hA2⟩, hB2⟩, hbw2⟩ ⟨Bx, hBx, hX2, rfl⟩ hlt
      have Hp := Lib.hid hp
      clear hp
      obtain ⟨x0, x1, x2, x3, x4, xf⟩ := hX2.cells5
      obtain ⟨b0, b1, b2, b3, b4, bf⟩ := hB2.cells5
      gi_wp2
      refine ⟨trivial, (CallsIn.inRound l (callsIn_wide.2 (Mul_calls ⟨omP x'.val, 0⟩ b _))).mono ?_⟩
      rintro e w1 ⟨y, er, rfl, hy, hb1⟩
      have Hh : Hid (phHit a b x' = (y.p.a == a.p.a && (y.p.b == a.p.b && (y.p.c == a.p.c && (y.p.d == a.p.d && y.k == a.k))))) := by
        show _ = _; unfold phHit; rw [hy]; rfl
      have hr3 := (hr2.below hb1 hr2.lt).alloc (.cells #[.int .i64 y.p.a, .int .i64 y.p.b, .int .i64 y.p.c, .int .i64 y.p.d, .int .i64 y.k] 23)
      have he3 := (he2.below hb1 he2.lt).alloc (.cells #[.int .i64 y.p.a, .int .i64 y.p.b, .int .i64 y.p.c, .int .i64 y.p.d, .int .i64 y.k] 23)
      have hA3 := (hA2.below hb1 hA2.lt).alloc (.cells #[.int .i64 y.p.a, .int .i64 y.p.b, .int .i64 y.p.c, .int .i64 y.p.d, .int .i64 y.k] 23)
      have hB3 := (hB2.below hb1 hB2.lt).alloc (.cells #[.int .i64 y.p.a, .int .i64 y.p.b, .int .i64 y.p.c, .int .i64 y.p.d, .int .i64 y.k] 23)
      have hbW := bt hb1 (Below.refl w.heap.size W) hbw2.size
      have hbW3 := hbW.alloc (by have := hb1.size; have := hbw2.size; omega) (.cells #[.int .i64 y.p.a, .int .i64 y.p.b, .int .i64 y.p.c, .int .i64 y.p.d, .int .i64 y.k] 23)
      have hk3 : KeepsFrom W0.heap.size W (w1.alloc (.cells #[.int .i64 y.p.a, .int .i64 y.p.b, .int .i64 y.p.c, .int .i64 y.p.d, .int .i64 y.k] 23)) := (below_keeps hb1).trans ((KeepsOthers.alloc _ _).from _)
      clear hy hb1 x0 x1 x2 x3 x4 xf b0 b1 b2 b3 b4 bf hbW
      obtain ⟨a0, a1, a2, a3, a4, af⟩ := hA3.cells5
      have hr := hr3.cell 0
      have hrf := hr3.frozen
      have he := he3.cell 0
      have hef := he3.frozen
      cases hE : (y.p.a == a.p.a && (y.p.b == a.p.b && (y.p.c == a.p.c && (y.p.d == a.p.d && y.k == a.k))))
      · have Hf : Hid ((pre ++ [x']).find? (phHit a b) = none) := by
          show _ = _; rw [List.find?_append, Hp.out, List.find?_cons_of_neg (by rw [Hh.out, hE]; decide)]; rfl
        gi_wp2
        exact ⟨hk3, hbW3, ⟨⟨⟨⟨Hf.out, hr3⟩, he3⟩, hA3⟩, hB3⟩, hbw2.trans hbW3⟩
      · have Hf : Hid ((pre ++ [x']).find? (phHit a b) = some x') := by
          show _ = _; rw [List.find?_append, Hp.out, List.find?_cons_of_pos (by rw [Hh.out, hE])]; rfl
        gi_wp2
        refine ⟨(hk3.trans ((KeepsOthers.setCell _ _ _).from _)).trans ((KeepsOthers.setCell _ _ _).from _), ⟨x', ⟨rfl, Hf.out⟩, ?_, ?_⟩, ?_⟩
        · exact (hr3.set_ 0 _).far (by simp) _
        · exact (he3.far (by simp) _).set_ 0 _
        · exact ((hbw2.trans hbW3).setCell (p := ⟨w.heap.size + 2, 0, none⟩) (by simp) _).setCell (p := ⟨w.heap.size + 3, 0, none⟩) (by simp) _
    case done =>
      rintro D ys W hD rfl ⟨⟨⟨⟨⟨hp, hr2⟩, he2⟩, hA2⟩, hB2⟩, hbw2⟩ hK
      have Hs2 : Hid (sPhase x z = (0, 6)) := by show _ = _; rw [Hs.out]; unfold phR; rw [hp]
      clear hp
      have hr := hr2.cell 0
      have hrf := hr2.frozen
      have he := he2.cell 0
      have hef := he2.frozen
      gi_wp2
      have hK' := ((KeepsOthers.setCell W ⟨w.heap.size + 2, 0, none⟩ (.int .i64 0)).trans (KeepsOthers.setCell _ ⟨w.heap.size + 3, 0, none⟩ (.int .i64 6))).same D _ hK rfl
      refine ⟨by simp, .inl ⟨_, _, rfl, run_takeDeferred hK', ?_⟩⟩
      have hc4 := cell_kept (((hr2.set_ 0 (.int .i64 0)).far (p := ⟨w.heap.size + 3, 0, none⟩) (by simp) (.int .i64 6)).cell 0) (grownBy_putObj' _ D (.deferred none)) (fun r e => by cases e; exact ⟨_, hK', rfl⟩)
      have hc5 := cell_kept (((he2.far (p := ⟨w.heap.size + 2, 0, none⟩) (by simp) (.int .i64 0)).set_ 0 (.int .i64 6)).cell 0) (grownBy_putObj' _ D (.deferred none)) (fun r e => by cases e; exact ⟨_, hK', rfl⟩)
      refine ⟨.tuple #[.int .i64 0, .int .i64 6], ?_, 0, 6, rfl, Hs2.out, ?_⟩
      · simp [results, Tryd.results40, go_sem, hc4, hc5]
      · exact ((hbw2.setCell (p := ⟨w.heap.size + 2, 0, none⟩) (by simp) _).setCell (p := ⟨w.heap.size + 3, 0, none⟩) (by simp) _).trans (belowK_b (w := w) (Nat.le_refl _) _ D _ _ (by have := hbw1.size; omega) hK' rfl rfl)
    case stop =>
      rintro D c pre W hD ⟨k, hk, rfl⟩ ⟨⟨i, ⟨rfl, hf⟩, hr2, he2⟩, hbw2⟩ hK
      have Hs2 : Hid (sPhase x z = ((i.val : Int), 0)) := by
        have hp : upto8 8 = upto8 k ++ (List.finRange 8).drop k := by
          show (List.finRange 8).take 8 = (List.finRange 8).take k ++ _
          rw [List.take_append_drop]; rfl
        show _ = _; rw [Hs.out]; unfold phR; rw [hp, List.find?_append, hf]; rfl
      clear hf
      gi_wp2
      refine ⟨by simp, .inl ⟨_, _, rfl, run_takeDeferred hK, ?_⟩⟩
      have hc4 := cell_kept (hr2.cell 0) (grownBy_putObj' _ D (.deferred none)) (fun r e => by cases e; exact ⟨_, hK, rfl⟩)
      have hc5 := cell_kept (he2.cell 0) (grownBy_putObj' _ D (.deferred none)) (fun r e => by cases e; exact ⟨_, hK, rfl⟩)
      refine ⟨.tuple #[.int .i64 (i.val : Int), .int .i64 0], ?_, (i.val : Int), 0, rfl, Hs2.out, ?_⟩
      · simp [results, Tryd.results40, go_sem, hc4, hc5]
      · exact hbw2.trans (belowK_b (w := w) (Nat.le_refl _) _ D _ _ (by have := hbw1.size; omega) hK rfl rfl)
  · have Hs : Hid (sPhase x z = (0, n)) := by show _ = _; unfold sPhase; rw [Hn.out, if_neg h0]
    have h0b : (n != 0) = true := by simpa using h0
    have hr := hr1.cell 0
    have hrf := hr1.frozen
    have he := he1.cell 0
    have hef := he1.frozen
    clear h0 Hn
    gi_wp2
    refine ⟨.tuple #[.int .i64 0, .int .i64 n], ?_, 0, n, rfl, Hs.out, ?_⟩
    · simp [results, Tryd.results40, go_sem, hr, he]
    · exact (hbw1.setCell (p := ⟨w.heap.size + 2, 0, none⟩) (by simp) _).setCell (p := ⟨w.heap.size + 3, 0, none⟩) (by simp) _
end Go.Proofs.YtlglmooknlmomaaDoor
end
section
namespace Go.Proofs.YtlglmooknlmomaaDoor
namespace Pt
theorem le_add {B C : Int} {p q : Pt} (hp : p.le B) (hq : q.le C) : (p.add q).le (B + C) := by simp only [le, add] at *; omega
theorem le_sub {B C : Int} {p q : Pt} (hp : p.le B) (hq : q.le C) : (p.sub q).le (B + C) := by simp only [le, sub] at *; omega
theorem le_neg1 {B : Int} {p : Pt} (hp : p.le B) : p.neg.le B := by simp only [le, neg] at *; omega
theorem le_tw (j : Nat) : ∀ {B : Int} {p : Pt}, p.le B → (tw j p).le (B * 2 ^ j) := by
  induction j with
  | zero => intro B p h; rw [Int.pow_zero, Int.mul_one]; exact h
  | succ j ih =>
    intro B p h
    have h2 := ih (le_twice h)
    rw [Int.pow_succ, show B * (2 ^ j * 2) = 2 * B * 2 ^ j by rw [Int.mul_comm (2 ^ j) 2, ← Int.mul_assoc, Int.mul_comm B 2]]
    exact h2
theorem pow2_mono {i n : Nat} (h : i ≤ n) : (2 : Int) ^ i ≤ 2 ^ n := by
  obtain ⟨d, rfl⟩ : ∃ d, n = i + d := ⟨n - i, by omega⟩
  induction d with
  | zero => exact Int.le_refl _
  | succ d ih =>
    have := ih (by omega)
    have h2 : (0 : Int) < 2 ^ (i + d) := Int.pow_pos (by decide)
    rw [← Nat.add_assoc, Int.pow_succ]
    omega
theorem le_b0 {B : Int} {p : Pt} (h : p.le B) : 0 ≤ B := by simp only [le] at h; omega
theorem le_tw2 {j K : Nat} {B : Int} {p : Pt} (h : p.le B) (hj : j ≤ K) : (tw j p).le (B * 2 ^ K) :=
  le_mono (le_tw j h) (Int.mul_le_mul_of_nonneg_left (pow2_mono hj) (le_b0 h))
end Pt
namespace Nm
def sv (N : Nat) (x : Nm) : Pt := Pt.tw (N - x.k.toNat) x.p
def Cn (x : Nm) : Prop := Pt.red x.k.toNat x.p = (x.p, x.k.toNat)
structure In (B : Int) (K : Nat) (x : Nm) : Prop where
  le : x.p.le B
  k0 : 0 ≤ x.k
  k1 : x.k ≤ K
theorem In.mono {B C : Int} {K L : Nat} {x : Nm} (h : In B K x) (hB : B ≤ C) (hK : K ≤ L) : In C L x := ⟨Pt.le_mono h.le hB, h.k0, by have := h.k1; omega⟩
theorem In.kn {B : Int} {K : Nat} {x : Nm} (h : In B K x) : x.k.toNat ≤ K := by have := h.k0; have := h.k1; omega
theorem In.chk {B : Int} {K : Nat} {x : Nm} (h : In B K x) (hB : B ≤ 1073741824) (hK : K ≤ 60) : x.chk = 0 :=
  ok_chk (Pt.le_mono h.le hB) h.k0 (by have := h.k1; omega)
end Nm
open Nm
theorem chks_in {B C : Int} {K L : Nat} {x z : Nm} (hx : In B K x) (hz : In C L z) (hB : B ≤ 1073741824) (hK : K ≤ 60) (hC : C ≤ 1073741824) (hL : L ≤ 60) : chks [x, z] = 0 := by
  simp only [chks]; rw [hx.chk hB hK, hz.chk hC hL]; rfl
structure Least (B : Int) (K : Nat) (r : Pt × Nat) (y : Nm) : Prop where
  eq : okN r = (y, 0)
  in_ : In B K y
  cn : Cn y
theorem sv_red {k N : Nat} {p : Pt} (h : k ≤ N) : sv N (nmOf (Pt.red k p)) = Pt.tw (N - k) p := by
  obtain ⟨j, hp, hk⟩ := Pt.red_ex k p
  unfold sv
  show Pt.tw (N - ((Pt.red k p).2 : Int).toNat) (Pt.red k p).1 = _
  rw [Int.toNat_natCast]
  conv => rhs; rw [hp]
  rw [← Pt.tw_add]
  congr 1
  omega
theorem cn_red (k : Nat) (p : Pt) : Cn (nmOf (Pt.red k p)) := by
  unfold Cn nmOf
  dsimp only
  rw [Int.toNat_natCast, Pt.red_red]
theorem least_red {B : Int} {K k : Nat} {p : Pt} (hp : p.le B) (hB : B ≤ 1073741824) (hk : k ≤ K) (hK : K ≤ 60) : Least B K (Pt.red k p) (nmOf (Pt.red k p)) := by
  have h1 := Pt.red_le k p hp
  have h2 := Pt.red_kle k p
  refine ⟨?_, ⟨h1, ?_, ?_⟩, cn_red k p⟩
  · unfold okN lstOk nmOf
    rw [(wiB_iff _ _).2 (Pt.le_mono h1 hB), decide_eq_true (by omega)]
    rfl
  · show (0 : Int) ≤ ((Pt.red k p).2 : Int); omega
  · show ((Pt.red k p).2 : Int) ≤ K; omega
theorem sv_up {N M : Nat} {x : Nm} (h : x.k.toNat ≤ N) : sv (N + M) x = Pt.tw M (sv N x) := by
  unfold sv; rw [← Pt.tw_add]; congr 1; omega
theorem cn_eq {N : Nat} {x y : Nm} (hx : Cn x) (hy : Cn y) (x0 : 0 ≤ x.k) (y0 : 0 ≤ y.k) (hxN : x.k.toNat ≤ N) (hyN : y.k.toNat ≤ N) (h : sv N x = sv N y) : x = y := by
  unfold sv at h
  have e : Pt.red x.k.toNat x.p = Pt.red y.k.toNat y.p := by
    rw [Pt.red_eq]
    apply Pt.tw_inj (n := N)
    rw [← Pt.tw_add, ← Pt.tw_add]
    have h1 : Pt.tw (x.k.toNat + y.k.toNat) (Pt.tw (N - x.k.toNat) x.p) = Pt.tw (x.k.toNat + y.k.toNat) (Pt.tw (N - y.k.toNat) y.p) := by rw [h]
    rw [← Pt.tw_add, ← Pt.tw_add] at h1
    rw [show N + y.k.toNat = x.k.toNat + y.k.toNat + (N - x.k.toNat) by omega, show N + x.k.toNat = x.k.toNat + y.k.toNat + (N - y.k.toNat) by omega]
    exact h1
  rw [hx, hy] at e
  obtain ⟨p, k⟩ := x
  obtain ⟨q, l⟩ := y
  dsimp only at *
  injection e with e1 e2
  subst e1
  obtain rfl : k = l := by omega
  rfl
theorem in_eq {B C : Int} {K L N : Nat} {x y : Nm} (hx : In B K x) (hy : In C L y) (cx : Cn x) (cy : Cn y) (hK : K ≤ N) (hL : L ≤ N) (h : sv N x = sv N y) : x = y :=
  cn_eq cx cy hx.k0 hy.k0 (by have := hx.kn; omega) (by have := hy.kn; omega) h
theorem add_in {B C D : Int} {K L M : Nat} {x z : Nm} (hx : In B K x) (hz : In C L z) (hM : max K L ≤ M) (hD : (B + C) * 2 ^ M ≤ D) (hD1 : D ≤ 1073741824) (hM1 : M ≤ 60) :
    ∃ y, sAdd x z = (y, 0) ∧ In D M y ∧ Cn y ∧ ∀ N, M ≤ N → sv N y = (sv N x).add (sv N z) := by
  have b0 := Pt.le_b0 hx.le
  have c0 := Pt.le_b0 hz.le
  have hp : (1 : Int) ≤ 2 ^ M := by have := Pt.pow2_mono (Nat.zero_le M); simpa using this
  have hBC : B + C ≤ (B + C) * 2 ^ M := by
    have := Int.mul_le_mul_of_nonneg_left hp (show 0 ≤ B + C by omega)
    rw [Int.mul_one] at this
    exact this
  have kx := hx.kn
  have kz := hz.kn
  have hc : chks [x, z] = 0 := chks_in hx hz (by omega) (by omega) (by omega) (by omega)
  have hl : (plusP x z).le D := by
    refine Pt.le_mono (Pt.le_add (Pt.le_tw2 (K := M) hx.le (by omega)) (Pt.le_tw2 (K := M) hz.le (by omega))) ?_
    rw [← Int.add_mul]; exact hD
  obtain ⟨e, i, c⟩ := least_red (k := max x.k.toNat z.k.toNat) (K := M) hl hD1 (by omega) hM1
  refine ⟨_, by unfold sAdd; rw [if_pos hc]; exact e, i, c, fun N hN => ?_⟩
  rw [sv_red (by omega)]
  unfold plusP sv
  rw [← Pt.tw_addp, ← Pt.tw_add, ← Pt.tw_add]
  congr 2 <;> omega
theorem sub_in {B C D : Int} {K L M : Nat} {x z : Nm} (hx : In B K x) (hz : In C L z) (hM : max K L ≤ M) (hD : (B + C) * 2 ^ M ≤ D) (hD1 : D ≤ 1073741824) (hM1 : M ≤ 60) :
    ∃ y, sSub x z = (y, 0) ∧ In D M y ∧ Cn y ∧ ∀ N, M ≤ N → sv N y = (sv N x).sub (sv N z) := by
  have b0 := Pt.le_b0 hx.le
  have c0 := Pt.le_b0 hz.le
  have hp : (1 : Int) ≤ 2 ^ M := by have := Pt.pow2_mono (Nat.zero_le M); simpa using this
  have hBC : B + C ≤ (B + C) * 2 ^ M := by
    have := Int.mul_le_mul_of_nonneg_left hp (show 0 ≤ B + C by omega)
    rw [Int.mul_one] at this
    exact this
  have kx := hx.kn
  have kz := hz.kn
  have hc : chks [x, z] = 0 := chks_in hx hz (by omega) (by omega) (by omega) (by omega)
  have hl : (minusP x z).le D := by
    refine Pt.le_mono (Pt.le_sub (Pt.le_tw2 (K := M) hx.le (by omega)) (Pt.le_tw2 (K := M) hz.le (by omega))) ?_
    rw [← Int.add_mul]; exact hD
  obtain ⟨e, i, c⟩ := least_red (k := max x.k.toNat z.k.toNat) (K := M) hl hD1 (by omega) hM1
  refine ⟨_, by unfold sSub; rw [if_pos hc]; exact e, i, c, fun N hN => ?_⟩
  rw [sv_red (by omega)]
  unfold minusP sv
  rw [← Pt.tw_sub, ← Pt.tw_add, ← Pt.tw_add]
  congr 2 <;> omega
theorem mul_in {B C D : Int} {K L : Nat} {x z : Nm} (hx : In B K x) (hz : In C L z) (hB : B ≤ 1073741824) (hC : C ≤ 1073741824) (hD : 4 * (B * C) ≤ D) (hD1 : D ≤ 1073741824) (hM1 : K + L ≤ 60) :
    ∃ y, sMul x z = (y, 0) ∧ In D (K + L) y ∧ Cn y ∧ ∀ N M, K ≤ N → L ≤ M → sv (N + M) y = (sv N x).mul (sv M z) := by
  have kx := hx.kn
  have kz := hz.kn
  have hc : chks [x, z] = 0 := chks_in hx hz hB (by omega) hC (by omega)
  obtain ⟨e, i, c⟩ := least_red (k := x.k.toNat + z.k.toNat) (K := K + L) (Pt.le_mono (Pt.mul_le hx.le hz.le) hD) hD1 (by omega) hM1
  refine ⟨_, by unfold sMul; rw [if_pos hc]; exact e, i, c, fun N M hN hM => ?_⟩
  rw [sv_red (by omega)]
  unfold sv
  rw [Pt.tw_mul, Pt.mul_tw, ← Pt.tw_add]
  congr 1; omega
theorem least_in {B : Int} {K : Nat} {x : Nm} (hx : In B K x) (hB : B ≤ 1073741824) (hK : K ≤ 60) :
    ∃ y, sLeast x = (y, 0) ∧ In B K y ∧ Cn y ∧ ∀ N, K ≤ N → sv N y = sv N x := by
  have kx := hx.kn
  obtain ⟨e, i, c⟩ := least_red (k := x.k.toNat) (K := K) hx.le hB (by omega) hK
  refine ⟨_, by unfold sLeast; rw [if_pos (hx.chk hB hK)]; exact e, i, c, fun N hN => ?_⟩
  rw [sv_red (by omega)]
  rfl
theorem conj_in {B : Int} {K : Nat} {x : Nm} (hx : In B K x) (hB : B ≤ 1073741824) (hK : K ≤ 60) :
    ∃ y, sConj x = (y, 0) ∧ In B K y ∧ Cn y ∧ ∀ N, K ≤ N → sv N y = (sv N x).conj := by
  have kx := hx.kn
  obtain ⟨e, i, c⟩ := least_red (k := x.k.toNat) (K := K) (Pt.le_conj hx.le) hB (by omega) hK
  refine ⟨_, by unfold sConj; rw [if_pos (hx.chk hB hK)]; exact e, i, c, fun N hN => ?_⟩
  rw [sv_red (by omega)]
  unfold sv
  rw [Pt.tw_conj]
theorem in_zero : In 0 0 Nm.zero := ⟨by show Pt.le 0 Pt.zero; simp [Pt.le, Pt.zero], by decide, by decide⟩
theorem neg_in {B : Int} {K : Nat} {x : Nm} (hx : In B K x) (hB : B ≤ 1073741824) (hK : K ≤ 60) :
    ∃ y, sNeg x = (y, 0) ∧ In B K y ∧ Cn y ∧ ∀ N, K ≤ N → sv N y = (sv N x).neg := by
  have kx := hx.kn
  have k0 := hx.k0
  have hz : In 0 0 Nm.zero := in_zero
  have hc : chks [Nm.zero, x] = 0 := chks_in hz hx (by decide) (by decide) hB hK
  have hm : minusP Nm.zero x = x.p.neg := by
    unfold minusP
    show (Pt.tw _ Pt.zero).sub (Pt.tw (max 0 x.k.toNat - x.k.toNat) x.p) = _
    rw [Pt.tw_zero, show max 0 x.k.toNat - x.k.toNat = 0 by omega]
    apply Pt.ext' <;> simp [Pt.tw, Pt.sub, Pt.neg, Pt.zero]
  obtain ⟨e, i, c⟩ := least_red (k := max Nm.zero.k.toNat x.k.toNat) (K := K) (Pt.le_neg1 hx.le) hB (by show max 0 x.k.toNat ≤ K; omega) hK
  refine ⟨_, by unfold sNeg sSub; rw [if_pos hc, hm]; exact e, i, c, fun N hN => ?_⟩
  rw [sv_red (by show max 0 x.k.toNat ≤ N; omega)]
  unfold sv
  rw [Pt.tw_neg, show max Nm.zero.k.toNat x.k.toNat = x.k.toNat by show max 0 x.k.toNat = _; omega]
theorem dot_in {B : Int} {K : Nat} {x : Nm} (hx : In B K x) (hB : B ≤ 1073741824) (hK : K ≤ 60) :
    ∃ y, sDot x = (y, 0) ∧ In B K y ∧ Cn y ∧ ∀ N, K ≤ 2 * N → sv (2 * N) y = (sv (2 * N) x).dot := by
  have kx := hx.kn
  have k0 := hx.k0
  by_cases h : x.k % 2 = 1
  · have hi : In B K ⟨x.p.dot, x.k⟩ := ⟨Pt.le_dot hx.le, hx.k0, hx.k1⟩
    obtain ⟨y, e, i, c, s⟩ := neg_in hi hB hK
    refine ⟨y, by unfold sDot; rw [if_pos (hx.chk hB hK), if_pos h]; exact e, i, c, fun N hN => ?_⟩
    rw [s _ hN]
    unfold sv
    dsimp only
    rw [Pt.tw_dot, if_pos (by omega), Pt.tw_neg]
  · obtain ⟨e, i, c⟩ := least_red (k := x.k.toNat) (K := K) (Pt.le_dot hx.le) hB (by omega) hK
    refine ⟨_, by unfold sDot; rw [if_pos (hx.chk hB hK), if_neg h]; exact e, i, c, fun N hN => ?_⟩
    rw [sv_red (by omega)]
    unfold sv
    rw [Pt.tw_dot, if_neg (by omega)]
theorem norm_in {B D : Int} {K : Nat} {x : Nm} (hx : In B K x) (hB : B ≤ 1073741824) (hD : 4 * (B * B) ≤ D) (hD1 : D ≤ 1073741824) (hK : K + K ≤ 60) :
    ∃ y, sNorm x = (y, 0) ∧ In D (K + K) y ∧ Cn y ∧ ∀ N, K ≤ N → sv (N + N) y = (sv N x).mul (sv N x).conj := by
  obtain ⟨z, e, i, c, s⟩ := conj_in hx hB (by omega)
  obtain ⟨y, e2, i2, c2, s2⟩ := mul_in hx i hB hB hD hD1 hK
  refine ⟨y, by unfold sNorm; rw [e]; exact e2, i2, c2, fun N hN => ?_⟩
  rw [s2 N N hN hN, s N hN]
theorem eqNm_true {x y : Nm} : eqNm x y = true ↔ x = y := by
  obtain ⟨⟨a, b, c, d⟩, k⟩ := x
  obtain ⟨⟨a', b', c', d'⟩, k'⟩ := y
  simp only [eqNm, Bool.and_eq_true, beq_iff_eq]
  constructor
  · rintro ⟨rfl, rfl, rfl, rfl, rfl⟩; rfl
  · intro h; injection h with h1 h2; injection h1 with h3 h4 h5 h6; exact ⟨h3, h4, h5, h6, h2⟩
theorem same_in {B C : Int} {K L : Nat} {x z : Nm} (hx : In B K x) (hz : In C L z) (hB : B ≤ 1073741824) (hK : K ≤ 60) (hC : C ≤ 1073741824) (hL : L ≤ 60) :
    ∃ b, sSame x z = (b, 0) ∧ ∀ N, K ≤ N → L ≤ N → (b = true ↔ sv N x = sv N z) := by
  obtain ⟨y, e, i, c, s⟩ := least_in hx hB hK
  obtain ⟨u, e2, i2, c2, s2⟩ := least_in hz hC hL
  have h1 : (okN (Pt.red x.k.toNat x.p)).1 = y := by
    unfold sLeast at e; rw [if_pos (hx.chk hB hK)] at e; rw [e]
  have h2 : (okN (Pt.red z.k.toNat z.p)).1 = u := by
    unfold sLeast at e2; rw [if_pos (hz.chk hC hL)] at e2; rw [e2]
  refine ⟨_, by unfold sSame; rw [if_pos (chks_in hx hz hB hK hC hL), h1, h2], fun N hN hM => ?_⟩
  rw [eqNm_true]
  constructor
  · intro h; rw [← s N hN, ← s2 N hM, h]
  · intro h; exact in_eq i i2 c c2 hN hM (by rw [s N hN, s2 N hM, h])
end Go.Proofs.YtlglmooknlmomaaDoor
end
