import Derived.RangeFuncNested
import Derived.RangeFuncBound
import Derived.RangeFuncCalls
import Derived.RangeFuncLeaves
import Derived.Shelf.Abstract
import Derived.Shelf.RegionOpen
import Derived.WalkKit
import Derived.OwnWalkIn
import Derived.TacticsInMore
import Derived.LoopNIn
import Derived.LoopIn
import Derived.Test.YtepdnjjfhbjcjaaGreatDoorC7
set_option linter.all false
section
namespace Go.Proofs.YtepdnjjfhbjcjaaGreatDoor
open Go.RowKit Go.Shelf
attribute [local go_sem] Oper.semAt_some
def omP (i : Nat) : Pt :=
  match i with
  | 0 => ⟨1, 0, 0, 0⟩ | 1 => ⟨0, 1, 0, 0⟩ | 2 => ⟨0, 0, 1, 0⟩ | 3 => ⟨0, 0, 0, 1⟩
  | 4 => ⟨-1, 0, 0, 0⟩ | 5 => ⟨0, -1, 0, 0⟩ | 6 => ⟨0, 0, -1, 0⟩ | _ => ⟨0, 0, 0, -1⟩
abbrev encO (x : Fin 8) : Array Value := #[.int .i64 (x.val : Int), .agg #[.int .i64 (omP x.val).a, .int .i64 (omP x.val).b, .int .i64 (omP x.val).c, .int .i64 (omP x.val).d, .int .i64 0]]
def upto8 (k : Nat) : List (Fin 8) := (List.finRange 8).take k
theorem below_grown {w w' : World} (h : Below w.heap.size w w') : w.grownBy w' none :=
  ⟨h.os, h.tape, h.output, h.size, fun k hk _ => h.block k hk⟩
set_option maxHeartbeats 400000 in
theorem powers_calls (w : World) : Calls Tryz.prog 35 #[] w fun e w' => e = .returned (.func (.func 72) #[] #[]) ∧ w' = w := by
  go_enter Tryz.func35, Tryz.ntmps35
  go_wp2
  go_ret
  exact ⟨rfl, rfl⟩
set_option maxRecDepth 100000 in
set_option maxHeartbeats 2000000 in
theorem powers1_stops (n : Nat) (hn : 1 ≤ n) (n₀ : Nat) (w : World) :
    SeqStopsK Fence.wide n Tryz.prog 72 #[] encO (Below n₀) (fun xs => xs = upto8 8) (fun pre => ∃ k, k ≤ 8 ∧ pre = upto8 k) 8 w := fun l J Jx W hW hJ _ hY h0 => by
  refine callsIn_of_wp Tryz.func72 rfl trivial ?_
  simp only [Tryz.ntmps72, List.size_toArray, List.length_cons, List.length_nil, Nat.reduceAdd, Nat.reduceSub, Array.replicate_succ, Array.replicate_zero, List.push_toArray, List.append_toArray, List.nil_append, List.cons_append]
  gi_wp2
  gi_loopw [4] (fun i wr => ∃ k : Nat, k ≤ 8 ∧ i = .int .i64 k ∧ J (upto8 k) wr)
    (fun i _ => 8 - (intOf i).toNat)
  case atStart => exact ⟨0, by omega, rfl, h0⟩
  case round =>
    obtain ⟨k, hk, rfl, hJs⟩ := hrel
    rcases Nat.lt_or_ge k 8 with hlt | hge
    · match k, hlt with
      | 0, _ =>
        gi_wp2
        refine ⟨trivial, callsIn_wide.2 ((of_calls _ _ _ _ _ _).mono ?_)⟩
        rintro e w1 ⟨rfl, hb1⟩
        have hJ1 : J (upto8 0) w1 := hJ _ _ _ none hJs (below_grown (bt hb1 ((Below.refl wr.heap.size wr).alloc (Nat.le_refl _) _) (by simp))) (fun r e => by cases e)
        clear hb1
        obtain ⟨fn, tmps, assign, body, hy, hR⟩ := hY (upto8 0) ⟨0, by decide⟩ w1 hJ1 (by decide)
        have hy : (Instr.yield l #[.int .i64 0, .agg #[.int .i64 (1), .int .i64 (0), .int .i64 (0), .int .i64 (0), .int .i64 0]]).run Tryz.prog w1 = .ok (.round l fn tmps assign body) w1 := hy
        gi_wp2
        refine hR.mono ?_
        rintro e W3 (⟨rfl, hJ3, hk3⟩ | ⟨rfl, hJx3⟩)
        · gi_wp2
          go_roundw
          case rel => exact ⟨1, by omega, by simp, hJ3⟩
          case measure => simp [intOf]
        · gi_wp2
          refine bodyPost_ret (results_none rfl _ _ _) rfl ?_
          exact ⟨⟨_, rfl⟩, .inr ⟨upto8 1, ⟨1, by omega, rfl⟩, hJx3⟩⟩
      | 1, _ =>
        gi_wp2
        refine ⟨trivial, callsIn_wide.2 ((of_calls _ _ _ _ _ _).mono ?_)⟩
        rintro e w1 ⟨rfl, hb1⟩
        have hJ1 : J (upto8 1) w1 := hJ _ _ _ none hJs (below_grown (bt hb1 ((Below.refl wr.heap.size wr).alloc (Nat.le_refl _) _) (by simp))) (fun r e => by cases e)
        clear hb1
        obtain ⟨fn, tmps, assign, body, hy, hR⟩ := hY (upto8 1) ⟨1, by decide⟩ w1 hJ1 (by decide)
        have hy : (Instr.yield l #[.int .i64 1, .agg #[.int .i64 (0), .int .i64 (1), .int .i64 (0), .int .i64 (0), .int .i64 0]]).run Tryz.prog w1 = .ok (.round l fn tmps assign body) w1 := hy
        gi_wp2
        refine hR.mono ?_
        rintro e W3 (⟨rfl, hJ3, hk3⟩ | ⟨rfl, hJx3⟩)
        · gi_wp2
          go_roundw
          case rel => exact ⟨2, by omega, by simp, hJ3⟩
          case measure => simp [intOf]
        · gi_wp2
          refine bodyPost_ret (results_none rfl _ _ _) rfl ?_
          exact ⟨⟨_, rfl⟩, .inr ⟨upto8 2, ⟨2, by omega, rfl⟩, hJx3⟩⟩
      | 2, _ =>
        gi_wp2
        refine ⟨trivial, callsIn_wide.2 ((of_calls _ _ _ _ _ _).mono ?_)⟩
        rintro e w1 ⟨rfl, hb1⟩
        have hJ1 : J (upto8 2) w1 := hJ _ _ _ none hJs (below_grown (bt hb1 ((Below.refl wr.heap.size wr).alloc (Nat.le_refl _) _) (by simp))) (fun r e => by cases e)
        clear hb1
        obtain ⟨fn, tmps, assign, body, hy, hR⟩ := hY (upto8 2) ⟨2, by decide⟩ w1 hJ1 (by decide)
        have hy : (Instr.yield l #[.int .i64 2, .agg #[.int .i64 (0), .int .i64 (0), .int .i64 (1), .int .i64 (0), .int .i64 0]]).run Tryz.prog w1 = .ok (.round l fn tmps assign body) w1 := hy
        gi_wp2
        refine hR.mono ?_
        rintro e W3 (⟨rfl, hJ3, hk3⟩ | ⟨rfl, hJx3⟩)
        · gi_wp2
          go_roundw
          case rel => exact ⟨3, by omega, by simp, hJ3⟩
          case measure => simp [intOf]
        · gi_wp2
          refine bodyPost_ret (results_none rfl _ _ _) rfl ?_
          exact ⟨⟨_, rfl⟩, .inr ⟨upto8 3, ⟨3, by omega, rfl⟩, hJx3⟩⟩
      | 3, _ =>
        gi_wp2
        refine ⟨trivial, callsIn_wide.2 ((of_calls _ _ _ _ _ _).mono ?_)⟩
        rintro e w1 ⟨rfl, hb1⟩
        have hJ1 : J (upto8 3) w1 := hJ _ _ _ none hJs (below_grown (bt hb1 ((Below.refl wr.heap.size wr).alloc (Nat.le_refl _) _) (by simp))) (fun r e => by cases e)
        clear hb1
        obtain ⟨fn, tmps, assign, body, hy, hR⟩ := hY (upto8 3) ⟨3, by decide⟩ w1 hJ1 (by decide)
        have hy : (Instr.yield l #[.int .i64 3, .agg #[.int .i64 (0), .int .i64 (0), .int .i64 (0), .int .i64 (1), .int .i64 0]]).run Tryz.prog w1 = .ok (.round l fn tmps assign body) w1 := hy
        gi_wp2
        refine hR.mono ?_
        rintro e W3 (⟨rfl, hJ3, hk3⟩ | ⟨rfl, hJx3⟩)
        · gi_wp2
          go_roundw
          case rel => exact ⟨4, by omega, by simp, hJ3⟩
          case measure => simp [intOf]
        · gi_wp2
          refine bodyPost_ret (results_none rfl _ _ _) rfl ?_
          exact ⟨⟨_, rfl⟩, .inr ⟨upto8 4, ⟨4, by omega, rfl⟩, hJx3⟩⟩
      | 4, _ =>
        gi_wp2
        refine ⟨trivial, callsIn_wide.2 ((of_calls _ _ _ _ _ _).mono ?_)⟩
        rintro e w1 ⟨rfl, hb1⟩
        have hJ1 : J (upto8 4) w1 := hJ _ _ _ none hJs (below_grown (bt hb1 ((Below.refl wr.heap.size wr).alloc (Nat.le_refl _) _) (by simp))) (fun r e => by cases e)
        clear hb1
        obtain ⟨fn, tmps, assign, body, hy, hR⟩ := hY (upto8 4) ⟨4, by decide⟩ w1 hJ1 (by decide)
        have hy : (Instr.yield l #[.int .i64 4, .agg #[.int .i64 (-1), .int .i64 (0), .int .i64 (0), .int .i64 (0), .int .i64 0]]).run Tryz.prog w1 = .ok (.round l fn tmps assign body) w1 := hy
        gi_wp2
        refine hR.mono ?_
        rintro e W3 (⟨rfl, hJ3, hk3⟩ | ⟨rfl, hJx3⟩)
        · gi_wp2
          go_roundw
          case rel => exact ⟨5, by omega, by simp, hJ3⟩
          case measure => simp [intOf]
        · gi_wp2
          refine bodyPost_ret (results_none rfl _ _ _) rfl ?_
          exact ⟨⟨_, rfl⟩, .inr ⟨upto8 5, ⟨5, by omega, rfl⟩, hJx3⟩⟩
      | 5, _ =>
        gi_wp2
        refine ⟨trivial, callsIn_wide.2 ((of_calls _ _ _ _ _ _).mono ?_)⟩
        rintro e w1 ⟨rfl, hb1⟩
        have hJ1 : J (upto8 5) w1 := hJ _ _ _ none hJs (below_grown (bt hb1 ((Below.refl wr.heap.size wr).alloc (Nat.le_refl _) _) (by simp))) (fun r e => by cases e)
        clear hb1
        obtain ⟨fn, tmps, assign, body, hy, hR⟩ := hY (upto8 5) ⟨5, by decide⟩ w1 hJ1 (by decide)
        have hy : (Instr.yield l #[.int .i64 5, .agg #[.int .i64 (0), .int .i64 (-1), .int .i64 (0), .int .i64 (0), .int .i64 0]]).run Tryz.prog w1 = .ok (.round l fn tmps assign body) w1 := hy
        gi_wp2
        refine hR.mono ?_
        rintro e W3 (⟨rfl, hJ3, hk3⟩ | ⟨rfl, hJx3⟩)
        · gi_wp2
          go_roundw
          case rel => exact ⟨6, by omega, by simp, hJ3⟩
          case measure => simp [intOf]
        · gi_wp2
          refine bodyPost_ret (results_none rfl _ _ _) rfl ?_
          exact ⟨⟨_, rfl⟩, .inr ⟨upto8 6, ⟨6, by omega, rfl⟩, hJx3⟩⟩
      | 6, _ =>
        gi_wp2
        refine ⟨trivial, callsIn_wide.2 ((of_calls _ _ _ _ _ _).mono ?_)⟩
        rintro e w1 ⟨rfl, hb1⟩
        have hJ1 : J (upto8 6) w1 := hJ _ _ _ none hJs (below_grown (bt hb1 ((Below.refl wr.heap.size wr).alloc (Nat.le_refl _) _) (by simp))) (fun r e => by cases e)
        clear hb1
        obtain ⟨fn, tmps, assign, body, hy, hR⟩ := hY (upto8 6) ⟨6, by decide⟩ w1 hJ1 (by decide)
        have hy : (Instr.yield l #[.int .i64 6, .agg #[.int .i64 (0), .int .i64 (0), .int .i64 (-1), .int .i64 (0), .int .i64 0]]).run Tryz.prog w1 = .ok (.round l fn tmps assign body) w1 := hy
        gi_wp2
        refine hR.mono ?_
        rintro e W3 (⟨rfl, hJ3, hk3⟩ | ⟨rfl, hJx3⟩)
        · gi_wp2
          go_roundw
          case rel => exact ⟨7, by omega, by simp, hJ3⟩
          case measure => simp [intOf]
        · gi_wp2
          refine bodyPost_ret (results_none rfl _ _ _) rfl ?_
          exact ⟨⟨_, rfl⟩, .inr ⟨upto8 7, ⟨7, by omega, rfl⟩, hJx3⟩⟩
      | 7, _ =>
        gi_wp2
        refine ⟨trivial, callsIn_wide.2 ((of_calls _ _ _ _ _ _).mono ?_)⟩
        rintro e w1 ⟨rfl, hb1⟩
        have hJ1 : J (upto8 7) w1 := hJ _ _ _ none hJs (below_grown (bt hb1 ((Below.refl wr.heap.size wr).alloc (Nat.le_refl _) _) (by simp))) (fun r e => by cases e)
        clear hb1
        obtain ⟨fn, tmps, assign, body, hy, hR⟩ := hY (upto8 7) ⟨7, by decide⟩ w1 hJ1 (by decide)
        have hy : (Instr.yield l #[.int .i64 7, .agg #[.int .i64 (0), .int .i64 (0), .int .i64 (0), .int .i64 (-1), .int .i64 0]]).run Tryz.prog w1 = .ok (.round l fn tmps assign body) w1 := hy
        gi_wp2
        refine hR.mono ?_
        rintro e W3 (⟨rfl, hJ3, hk3⟩ | ⟨rfl, hJx3⟩)
        · gi_wp2
          go_roundw
          case rel => exact ⟨8, by omega, by simp, hJ3⟩
          case measure => simp [intOf]
        · gi_wp2
          refine bodyPost_ret (results_none rfl _ _ _) rfl ?_
          exact ⟨⟨_, rfl⟩, .inr ⟨upto8 8, ⟨8, by omega, rfl⟩, hJx3⟩⟩
    · obtain rfl : k = 8 := by omega
      gi_wp2
      go_end0
      exact ⟨⟨_, rfl⟩, .inl ⟨_, rfl, hJs⟩⟩
end Go.Proofs.YtepdnjjfhbjcjaaGreatDoor
end
section
namespace Go.Proofs.YtepdnjjfhbjcjaaGreatDoor
open Go.RowKit Go.Shelf
attribute [local go_sem] Oper.semAt_some
attribute [local go_sem high] eqNum
theorem blk_own {β : Type} (B : Nat) (t : TypeId) (cs : Array Value) : Own (fun (_ : β) W => Blk W B t cs) := fun s X Y row hs hg hrow =>
  (hg.block B hs.lt (fun e' => by obtain ⟨_, ho, hc⟩ := hrow B e'.symm; rw [show X.heap[B]? = _ from hs] at ho; cases ho; cases hc)).trans hs
theorem below_keeps {B : Nat} {W W' : World} (h : Below W.heap.size W W') : KeepsFrom B W W' := ⟨h.size, fun k _ _ hk _ => (h.block k (Array.getElem?_eq_some_iff.1 hk).1).trans hk⟩
def phHit (a b : Nm) (i : Fin 8) : Bool := eqNm (sMul ⟨omP i.val, 0⟩ b).1 a
def phR (a b : Nm) : Int × Int := match (upto8 8).find? (phHit a b) with | some i => ((i.val : Int), 0) | none => (0, 6)
def nmOf (r : Pt × Nat) : Nm := ⟨r.1, r.2⟩
def sPhase (x z : Nm) : Int × Int := if chks [x, z] = 0 then phR (nmOf (Pt.red x.k.toNat x.p)) (nmOf (Pt.red z.k.toNat z.p)) else (0, chks [x, z])
set_option maxRecDepth 100000 in
set_option maxHeartbeats 4000000 in
theorem Phase_calls (x z : Nm) (w : World) :
    Calls Tryz.prog 24 #[.agg #[.int .i64 x.p.a, .int .i64 x.p.b, .int .i64 x.p.c, .int .i64 x.p.d, .int .i64 x.k], .agg #[.int .i64 z.p.a, .int .i64 z.p.b, .int .i64 z.p.c, .int .i64 z.p.d, .int .i64 z.k]] w fun e w' => ∃ (r er : Int), e = .returned (.tuple #[.int .i64 r, .int .i64 er]) ∧ sPhase x z = (r, er) ∧ Below w.heap.size w w' := by
  obtain ⟨n, hn⟩ : ∃ n : Int, chks [x, z] = n := ⟨_, rfl⟩
  have Hn := Lib.hid hn
  clear hn
  refine (callsIn_wide (n := 3)).1 ?_
  refine callsIn_of_wp_marks Tryz.func24 rfl trivial ?_
  simp only [Tryz.ntmps24, List.size_toArray, List.length_cons, List.length_nil, Nat.reduceAdd, Nat.reduceSub, Array.replicate_succ, Array.replicate_zero, List.push_toArray, List.append_toArray, List.nil_append, List.cons_append]
  gi_wp2
  refine ⟨trivial, callsIn_wide.2 ((checks_calls [x, z] _ _ (by simp) _ (by simp) (rowAt_two (Blk.at_ ((((w.alloc _).alloc _).alloc _).alloc _) _ _ (by simp)))).mono ?_)⟩
  rintro e w1 ⟨rfl, hb1⟩
  rw [Hn.out]
  have hx1 : Blk w1 w.heap.size 23 #[.int .i64 x.p.a, .int .i64 x.p.b, .int .i64 x.p.c, .int .i64 x.p.d, .int .i64 x.k] := Blk.below (Blk.alloc (Blk.alloc (Blk.alloc (Blk.alloc (Blk.new w _ _) _) _) _) _) hb1 (by simp <;> omega)
  have hy1 : Blk w1 (w.heap.size + 1) 23 #[.int .i64 z.p.a, .int .i64 z.p.b, .int .i64 z.p.c, .int .i64 z.p.d, .int .i64 z.k] := Blk.below (Blk.alloc (Blk.alloc (Blk.alloc (Blk.at_ (w.alloc _) _ _ (by simp)) _) _) _) hb1 (by simp <;> omega)
  have hr1 : Blk w1 (w.heap.size + 2) 3 #[.int .i64 0] := Blk.below (Blk.alloc (Blk.alloc (Blk.at_ ((w.alloc _).alloc _) _ _ (by simp)) _) _) hb1 (by simp <;> omega)
  have he1 : Blk w1 (w.heap.size + 3) 26 #[.int .i64 0] := Blk.below (Blk.alloc (Blk.at_ (((w.alloc _).alloc _).alloc _) _ _ (by simp)) _) hb1 (by simp <;> omega)
  have hbw1 : Below w.heap.size w w1 := bt hb1 (((below3 _ _ _ _).alloc (by simp <;> omega) _).alloc (by simp <;> omega) _) (by simp <;> omega)
  clear hb1
  have hz1 := he1.lt
  by_cases h0 : n = 0
  · obtain ⟨hcx, hcz⟩ := chks_two (Hn.out.trans h0)
    obtain ⟨hlx, hkx0, hkx1⟩ := Nm.chk_ok hcx
    obtain ⟨hlz, hkz0, hkz1⟩ := Nm.chk_ok hcz
    have Hs : Hid (sPhase x z = phR (nmOf (Pt.red x.k.toNat x.p)) (nmOf (Pt.red z.k.toNat z.p))) := by show _ = _; unfold sPhase; rw [if_pos (Hn.out.trans h0)]
    have HR1 := Lib.hid (okN_red hcx)
    have HR2 := Lib.hid (okN_red hcz)
    clear hcx hcz
    obtain ⟨k, hk⟩ : ∃ k : Nat, x.k = k := ⟨x.k.toNat, by omega⟩
    obtain ⟨l, hl⟩ : ∃ l : Nat, z.k = l := ⟨z.k.toNat, by omega⟩
    have HL1 := Lib.hid (fun W => least_nm x.p k 70 (Pt.sm_mono (Pt.le_sm hlx) (by omega)) (by omega) W)
    have HL2 := Lib.hid (fun W => least_nm z.p l 70 (Pt.sm_mono (Pt.le_sm hlz) (by omega)) (by omega) W)
    rw [← hk] at HL1
    rw [← hl] at HL2
    have Hk : Hid (x.k.toNat = k ∧ z.k.toNat = l) := ⟨by omega, by omega⟩
    subst h0
    clear hk hl hlx hlz hkx0 hkx1 hkz0 hkz1 Hn
    obtain ⟨x0, x1, x2, x3, x4, xf⟩ := hx1.cells5
    gi_wp2
    refine ⟨trivial, callsIn_wide.2 ((work_calls _ _ _ _ _ _).mono ?_)⟩
    rintro e w1 ⟨rfl, hb1⟩
    have hy1 := hy1.below hb1 hy1.lt
    have hr1 := hr1.below hb1 hr1.lt
    have he1 := he1.below hb1 he1.lt
    have hbw1 := bt hb1 hbw1 hbw1.size
    clear hb1
    clear hx1 x0 x1 x2 x3 x4 xf
    gi_wp2
    refine ⟨trivial, callsIn_wide.2 ((HL1.out _).mono ?_)⟩
    rintro e w1 ⟨a, ea, rfl, ha, hb1⟩
    have hy1 := hy1.below hb1 hy1.lt
    have hr1 := hr1.below hb1 hr1.lt
    have he1 := he1.below hb1 he1.lt
    have hbw1 := bt hb1 hbw1 hbw1.size
    clear hb1
    have Ha : Hid (nmOf (Pt.red x.k.toNat x.p) = a) := by
      have h := HR1.out; rw [Hk.out.1, ha] at h; injection h with h _; rw [Hk.out.1]; exact h.symm
    clear ha
    have hz1 := he1.lt
    obtain ⟨y0, y1, y2, y3, y4, yf⟩ := (hy1.alloc (.cells #[.int .i64 a.p.a, .int .i64 a.p.b, .int .i64 a.p.c, .int .i64 a.p.d, .int .i64 a.k] 23)).cells5
    generalize hA0 : w1.heap.size = A at *
    have hA1 := Blk.at_ w1 23 #[.int .i64 a.p.a, .int .i64 a.p.b, .int .i64 a.p.c, .int .i64 a.p.d, .int .i64 a.k] hA0
    have hr1 := hr1.alloc (.cells #[.int .i64 a.p.a, .int .i64 a.p.b, .int .i64 a.p.c, .int .i64 a.p.d, .int .i64 a.k] 23)
    have he1 := he1.alloc (.cells #[.int .i64 a.p.a, .int .i64 a.p.b, .int .i64 a.p.c, .int .i64 a.p.d, .int .i64 a.k] 23)
    have hbw1 := hbw1.alloc (by omega) (.cells #[.int .i64 a.p.a, .int .i64 a.p.b, .int .i64 a.p.c, .int .i64 a.p.d, .int .i64 a.k] 23)
    gi_wp2
    refine ⟨trivial, callsIn_wide.2 ((work_calls _ _ _ _ _ _).mono ?_)⟩
    rintro e w1 ⟨rfl, hb1⟩
    have hA1 := hA1.below hb1 hA1.lt
    have hr1 := hr1.below hb1 hr1.lt
    have he1 := he1.below hb1 he1.lt
    have hbw1 := bt hb1 hbw1 hbw1.size
    clear hb1
    clear y0 y1 y2 y3 y4 yf hy1
    gi_wp2
    refine ⟨trivial, callsIn_wide.2 ((HL2.out _).mono ?_)⟩
    rintro e w1 ⟨b, eb, rfl, hb, hb1⟩
    have hA1 := hA1.below hb1 hA1.lt
    have hr1 := hr1.below hb1 hr1.lt
    have he1 := he1.below hb1 he1.lt
    have hbw1 := bt hb1 hbw1 hbw1.size
    clear hb1
    have Hb : Hid (nmOf (Pt.red z.k.toNat z.p) = b) := by
      have h := HR2.out; rw [Hk.out.2, hb] at h; injection h with h _; rw [Hk.out.2]; exact h.symm
    clear hb
    have Hs : Hid (sPhase x z = phR a b) := by show _ = _; rw [Hs.out, Ha.out, Hb.out]
    clear Ha Hb HR1 HR2 HL1 HL2 Hk
    have hz2 := hA1.lt
    generalize hB0 : w1.heap.size = B at *
    have hB1 := Blk.at_ w1 23 #[.int .i64 b.p.a, .int .i64 b.p.b, .int .i64 b.p.c, .int .i64 b.p.d, .int .i64 b.k] hB0
    have hA1 := hA1.alloc (.cells #[.int .i64 b.p.a, .int .i64 b.p.b, .int .i64 b.p.c, .int .i64 b.p.d, .int .i64 b.k] 23)
    have hr1 := hr1.alloc (.cells #[.int .i64 b.p.a, .int .i64 b.p.b, .int .i64 b.p.c, .int .i64 b.p.d, .int .i64 b.k] 23)
    have he1 := he1.alloc (.cells #[.int .i64 b.p.a, .int .i64 b.p.b, .int .i64 b.p.c, .int .i64 b.p.d, .int .i64 b.k] 23)
    have hbw1 := hbw1.alloc (by omega) (.cells #[.int .i64 b.p.a, .int .i64 b.p.b, .int .i64 b.p.c, .int .i64 b.p.d, .int .i64 b.k] 23)
    gi_wp2
    refine ⟨trivial, callsIn_wide.2 ((powers_calls _).mono ?_)⟩
    rintro e w2 ⟨rfl, rfl⟩
    generalize w1.alloc (.cells #[.int .i64 b.p.a, .int .i64 b.p.b, .int .i64 b.p.c, .int .i64 b.p.d, .int .i64 b.k] 23) = W0 at *
    gi_wp2
    refine wpIn_rangeFunc_ownH rfl (by omega) (gf := 72) (lb := #[]) rfl trivial (enters_of Tryz.func72 (by kernel_rfl) rfl)
      (powers1_stops 2 (by omega) w.heap.size W0) belowK_t (belowK_b hbw1.size) (Below.refl _ _) (fun _ => rfl)
      (fun pre W => ((((pre.find? (phHit a b) = none ∧ Blk W (w.heap.size + 2) 3 #[.int .i64 0]) ∧ Blk W (w.heap.size + 3) 26 #[.int .i64 0]) ∧ Blk W A 23 #[.int .i64 a.p.a, .int .i64 a.p.b, .int .i64 a.p.c, .int .i64 a.p.d, .int .i64 a.k]) ∧ Blk W B 23 #[.int .i64 b.p.a, .int .i64 b.p.b, .int .i64 b.p.c, .int .i64 b.p.d, .int .i64 b.k]) ∧ Below w.heap.size w W)
      (fun c pre W => (∃ i : Fin 8, (c = .ret ∧ pre.find? (phHit a b) = some i) ∧ Blk W (w.heap.size + 2) 3 #[.int .i64 (i.val : Int)] ∧ Blk W (w.heap.size + 3) 26 #[.int .i64 0]) ∧ Below w.heap.size w W)
      (OwnFrom.and (OwnFrom.and (OwnFrom.and (OwnFrom.and (OwnFrom.and (ownFrom_pure _ _) (Own.from (blk_own _ _ _) _)) (Own.from (blk_own _ _ _) _)) (Own.from (blk_own _ _ _) _)) (Own.from (blk_own _ _ _) _)) (ownFrom_below (Nat.le_refl _) hbw1.size))
      (fun c => OwnFrom.and (fun s X Y row hs hg hr => by
        obtain ⟨i, h1, h2, h3⟩ := hs
        exact ⟨i, h1, Own.from (blk_own _ _ _) _ () X Y row h2 hg hr, Own.from (blk_own _ _ _) _ () X Y row h3 hg hr⟩) (ownFrom_below (Nat.le_refl _) hbw1.size))
      ⟨⟨⟨⟨⟨rfl, hr1⟩, he1⟩, hA1⟩, hB1⟩, hbw1⟩
      (fun x' a' W => ∃ Bx, B < Bx ∧ Blk W Bx 23 #[.int .i64 (omP x'.val).a, .int .i64 (omP x'.val).b, .int .i64 (omP x'.val).c, .int .i64 (omP x'.val).d, .int .i64 0] ∧ a' = { tmps := #[.agg #[.int .i64 x.p.a, .int .i64 x.p.b, .int .i64 x.p.c, .int .i64 x.p.d, .int .i64 x.k], .agg #[.int .i64 z.p.a, .int .i64 z.p.b, .int .i64 z.p.c, .int .i64 z.p.d, .int .i64 z.k], .pointer (some ⟨w.heap.size, 0, none⟩), .pointer (some ⟨w.heap.size + 1, 0, none⟩), .pointer (some ⟨w.heap.size + 1 + 1, 0, none⟩), .pointer (some ⟨w.heap.size + 1 + 1 + 1, 0, none⟩), .int .i64 0, .pointer (some ⟨A, 0, none⟩), .int .i64 ea, .pointer (some ⟨B, 0, none⟩), .int .i64 eb, .int .i64 (x'.val : Int), .pointer (some ⟨Bx, 0, none⟩), undef, undef, .agg #[.int .i64 x.p.a, .int .i64 x.p.b, .int .i64 x.p.c, .int .i64 x.p.d, .int .i64 x.k], .agg #[.int .i64 z.p.a, .int .i64 z.p.b, .int .i64 z.p.c, .int .i64 z.p.d, .int .i64 z.k], .slice (some ⟨w.heap.size + 1 + 1 + 1 + 1, 0, none⟩) 2 2, .int .i64 0, .int .i64 0, .bool false, undef, .tuple #[.agg #[.int .i64 a.p.a, .int .i64 a.p.b, .int .i64 a.p.c, .int .i64 a.p.d, .int .i64 a.k], .int .i64 ea], .agg #[.int .i64 x.p.a, .int .i64 x.p.b, .int .i64 x.p.c, .int .i64 x.p.d, .int .i64 x.k], .agg #[.int .i64 x.p.a, .int .i64 x.p.b, .int .i64 x.p.c, .int .i64 x.p.d, .int .i64 x.k, .func (.func 70) #[] #[]], .tuple #[.agg #[.int .i64 a.p.a, .int .i64 a.p.b, .int .i64 a.p.c, .int .i64 a.p.d, .int .i64 a.k], .int .i64 ea], .agg #[.int .i64 a.p.a, .int .i64 a.p.b, .int .i64 a.p.c, .int .i64 a.p.d, .int .i64 a.k], .int .i64 ea, .tuple #[.agg #[.int .i64 b.p.a, .int .i64 b.p.b, .int .i64 b.p.c, .int .i64 b.p.d, .int .i64 b.k], .int .i64 eb], .agg #[.int .i64 z.p.a, .int .i64 z.p.b, .int .i64 z.p.c, .int .i64 z.p.d, .int .i64 z.k], .agg #[.int .i64 z.p.a, .int .i64 z.p.b, .int .i64 z.p.c, .int .i64 z.p.d, .int .i64 z.k, .func (.func 70) #[] #[]], .tuple #[.agg #[.int .i64 b.p.a, .int .i64 b.p.b, .int .i64 b.p.c, .int .i64 b.p.d, .int .i64 b.k], .int .i64 eb], .agg #[.int .i64 b.p.a, .int .i64 b.p.b, .int .i64 b.p.c, .int .i64 b.p.d, .int .i64 b.k], .int .i64 eb, .func (.func 72) #[] #[], .int .i64 (x'.val : Int), .agg #[.int .i64 (omP x'.val).a, .int .i64 (omP x'.val).b, .int .i64 (omP x'.val).c, .int .i64 (omP x'.val).d, .int .i64 0], undef, undef, undef, undef, undef, undef, undef, undef, undef, undef], defers := [] })
      (fun x' a' s X Y row hs hg hr => by obtain ⟨Bx, e1, e2, e3⟩ := hs; exact ⟨Bx, e1, Own.from (blk_own _ _ _) _ () X Y row e2 hg hr, e3⟩)
      ?assign ?body ?done ?stop
    case assign =>
      rintro l pre x' W K ⟨⟨⟨⟨⟨hp, hr2⟩, he2⟩, hA2⟩, hB2⟩, hbw2⟩ hK
      gi_wp2
      exact hK _ _ ((KeepsOthers.alloc _ _).from _) ((Below.refl _ W).alloc hbw2.size _) ⟨⟨⟨⟨⟨hp, hr2.alloc _⟩, he2.alloc _⟩, hA2.alloc _⟩, hB2.alloc _⟩, hbw2.alloc hbw2.size _⟩ ⟨W.heap.size, hB2.lt, Blk.new _ _ _, rfl⟩
    case body =>
      rintro l pre x' a' W hl ⟨r, hr⟩ ⟨⟨⟨⟨⟨hp, hr2⟩, he2⟩, hA2⟩, hB2⟩, hbw2⟩ ⟨Bx, hBx, hX2, rfl⟩ hlt
      have Hp := Lib.hid hp
      clear hp
      obtain ⟨x0, x1, x2, x3, x4, xf⟩ := hX2.cells5
      obtain ⟨b0, b1, b2, b3, b4, bf⟩ := hB2.cells5
      gi_wp2
      refine ⟨trivial, (CallsIn.inRound l (callsIn_wide.2 (Mul_calls ⟨omP x'.val, 0⟩ b _))).mono ?_⟩
      rintro e w1 ⟨y, er, rfl, hy, hb1⟩
      have Hh : Hid (phHit a b x' = (y.p.a == a.p.a && (y.p.b == a.p.b && (y.p.c == a.p.c && (y.p.d == a.p.d && y.k == a.k))))) := by
        show _ = _; unfold phHit; rw [hy]; rfl
      have hr3 := (hr2.below hb1 hr2.lt).alloc (.cells #[.int .i64 y.p.a, .int .i64 y.p.b, .int .i64 y.p.c, .int .i64 y.p.d, .int .i64 y.k] 23)
      have he3 := (he2.below hb1 he2.lt).alloc (.cells #[.int .i64 y.p.a, .int .i64 y.p.b, .int .i64 y.p.c, .int .i64 y.p.d, .int .i64 y.k] 23)
      have hA3 := (hA2.below hb1 hA2.lt).alloc (.cells #[.int .i64 y.p.a, .int .i64 y.p.b, .int .i64 y.p.c, .int .i64 y.p.d, .int .i64 y.k] 23)
      have hB3 := (hB2.below hb1 hB2.lt).alloc (.cells #[.int .i64 y.p.a, .int .i64 y.p.b, .int .i64 y.p.c, .int .i64 y.p.d, .int .i64 y.k] 23)
      have hbW := bt hb1 (Below.refl w.heap.size W) hbw2.size
      have hbW3 := hbW.alloc (by have := hb1.size; have := hbw2.size; omega) (.cells #[.int .i64 y.p.a, .int .i64 y.p.b, .int .i64 y.p.c, .int .i64 y.p.d, .int .i64 y.k] 23)
      have hk3 : KeepsFrom W0.heap.size W (w1.alloc (.cells #[.int .i64 y.p.a, .int .i64 y.p.b, .int .i64 y.p.c, .int .i64 y.p.d, .int .i64 y.k] 23)) := (below_keeps hb1).trans ((KeepsOthers.alloc _ _).from _)
      clear hy hb1 x0 x1 x2 x3 x4 xf b0 b1 b2 b3 b4 bf hbW
      obtain ⟨a0, a1, a2, a3, a4, af⟩ := hA3.cells5
      have hr := hr3.cell 0
      have hrf := hr3.frozen
      have he := he3.cell 0
      have hef := he3.frozen
      cases hE : (y.p.a == a.p.a && (y.p.b == a.p.b && (y.p.c == a.p.c && (y.p.d == a.p.d && y.k == a.k))))
      · have Hf : Hid ((pre ++ [x']).find? (phHit a b) = none) := by
          show _ = _; rw [List.find?_append, Hp.out, List.find?_cons_of_neg (by rw [Hh.out, hE]; decide)]; rfl
        gi_wp2
        exact ⟨hk3, hbW3, ⟨⟨⟨⟨Hf.out, hr3⟩, he3⟩, hA3⟩, hB3⟩, hbw2.trans hbW3⟩
      · have Hf : Hid ((pre ++ [x']).find? (phHit a b) = some x') := by
          show _ = _; rw [List.find?_append, Hp.out, List.find?_cons_of_pos (by rw [Hh.out, hE])]; rfl
        gi_wp2
        refine ⟨(hk3.trans ((KeepsOthers.setCell _ _ _).from _)).trans ((KeepsOthers.setCell _ _ _).from _), ⟨x', ⟨rfl, Hf.out⟩, ?_, ?_⟩, ?_⟩
        · exact (hr3.set_ 0 _).far (by simp) _
        · exact (he3.far (by simp) _).set_ 0 _
        · exact ((hbw2.trans hbW3).setCell (p := ⟨w.heap.size + 2, 0, none⟩) (by simp) _).setCell (p := ⟨w.heap.size + 3, 0, none⟩) (by simp) _
    case done =>
      rintro D ys W hD rfl ⟨⟨⟨⟨⟨hp, hr2⟩, he2⟩, hA2⟩, hB2⟩, hbw2⟩ hK
      have Hs2 : Hid (sPhase x z = (0, 6)) := by show _ = _; rw [Hs.out]; unfold phR; rw [hp]
      clear hp
      have hr := hr2.cell 0
      have hrf := hr2.frozen
      have he := he2.cell 0
      have hef := he2.frozen
      gi_wp2
      have hK' := ((KeepsOthers.setCell W ⟨w.heap.size + 2, 0, none⟩ (.int .i64 0)).trans (KeepsOthers.setCell _ ⟨w.heap.size + 3, 0, none⟩ (.int .i64 6))).same D _ hK rfl
      refine ⟨by simp, .inl ⟨_, _, rfl, run_takeDeferred hK', ?_⟩⟩
      have hc4 := cell_kept (((hr2.set_ 0 (.int .i64 0)).far (p := ⟨w.heap.size + 3, 0, none⟩) (by simp) (.int .i64 6)).cell 0) (grownBy_putObj' _ D (.deferred none)) (fun r e => by cases e; exact ⟨_, hK', rfl⟩)
      have hc5 := cell_kept (((he2.far (p := ⟨w.heap.size + 2, 0, none⟩) (by simp) (.int .i64 0)).set_ 0 (.int .i64 6)).cell 0) (grownBy_putObj' _ D (.deferred none)) (fun r e => by cases e; exact ⟨_, hK', rfl⟩)
      refine ⟨.tuple #[.int .i64 0, .int .i64 6], ?_, 0, 6, rfl, Hs2.out, ?_⟩
      · simp [results, Tryz.results24, go_sem, hc4, hc5]
      · exact ((hbw2.setCell (p := ⟨w.heap.size + 2, 0, none⟩) (by simp) _).setCell (p := ⟨w.heap.size + 3, 0, none⟩) (by simp) _).trans (belowK_b (w := w) (Nat.le_refl _) _ D _ _ (by have := hbw1.size; omega) hK' rfl rfl)
    case stop =>
      rintro D c pre W hD ⟨k, hk, rfl⟩ ⟨⟨i, ⟨rfl, hf⟩, hr2, he2⟩, hbw2⟩ hK
      have Hs2 : Hid (sPhase x z = ((i.val : Int), 0)) := by
        have hp : upto8 8 = upto8 k ++ (List.finRange 8).drop k := by
          show (List.finRange 8).take 8 = (List.finRange 8).take k ++ _
          rw [List.take_append_drop]; rfl
        show _ = _; rw [Hs.out]; unfold phR; rw [hp, List.find?_append, hf]; rfl
      clear hf
      gi_wp2
      refine ⟨by simp, .inl ⟨_, _, rfl, run_takeDeferred hK, ?_⟩⟩
      have hc4 := cell_kept (hr2.cell 0) (grownBy_putObj' _ D (.deferred none)) (fun r e => by cases e; exact ⟨_, hK, rfl⟩)
      have hc5 := cell_kept (he2.cell 0) (grownBy_putObj' _ D (.deferred none)) (fun r e => by cases e; exact ⟨_, hK, rfl⟩)
      refine ⟨.tuple #[.int .i64 (i.val : Int), .int .i64 0], ?_, (i.val : Int), 0, rfl, Hs2.out, ?_⟩
      · simp [results, Tryz.results24, go_sem, hc4, hc5]
      · exact hbw2.trans (belowK_b (w := w) (Nat.le_refl _) _ D _ _ (by have := hbw1.size; omega) hK rfl rfl)
  · have Hs : Hid (sPhase x z = (0, n)) := by show _ = _; unfold sPhase; rw [Hn.out, if_neg h0]
    have h0b : (n != 0) = true := by simpa using h0
    have hr := hr1.cell 0
    have hrf := hr1.frozen
    have he := he1.cell 0
    have hef := he1.frozen
    clear h0 Hn
    gi_wp2
    refine ⟨.tuple #[.int .i64 0, .int .i64 n], ?_, 0, n, rfl, Hs.out, ?_⟩
    · simp [results, Tryz.results24, go_sem, hr, he]
    · exact (hbw1.setCell (p := ⟨w.heap.size + 2, 0, none⟩) (by simp) _).setCell (p := ⟨w.heap.size + 3, 0, none⟩) (by simp) _
end Go.Proofs.YtepdnjjfhbjcjaaGreatDoor
end
