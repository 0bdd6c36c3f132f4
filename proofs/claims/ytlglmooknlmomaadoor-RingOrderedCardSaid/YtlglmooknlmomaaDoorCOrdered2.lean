import Derived.RegionTactic
import Derived.BigRegion
import Derived.Test.YtlglmooknlmomaaDoorCOrdered0
import Derived.Test.YtlglmooknlmomaaDoorCOrdered1
set_option linter.all false
section
namespace Go.Proofs.YtlglmooknlmomaaDoor
open Go.RowKit
attribute [local go_sem] Oper.semAt_some
attribute [local go_sem high] eqNum
set_option maxRecDepth 100000 in
set_option maxHeartbeats 8000000 in
theorem RingOrdered_walk (HAW : ∀ w : World, Tabs w → Calls Tryd.prog 15 #[] w fun e w' => e = .returned (.bool true) ∧ Below w.heap.size w w') (a : Option Addr) (n c : Nat) (w : World) (ht : Tabs w) (hB : BytesAt w a n) (ha : a = none → n = 0) (hc : n ≤ c) :
    Calls Tryd.prog 11 #[.slice a n c] w fun e w' => e = .returned (.bool true) ∧ Below w.heap.size w w' := by
  have hW := Below.refl w.heap.size w
  go_enter Tryd.func11, Tryd.ntmps11
  go_wp2_with fail
  refine (store_calls a n c _ hB ha hc).mono ?_
  rintro e w1 ⟨b, rfl, hbl, hS, hb⟩
  have hW := below_via hW hb (Below.refl _ _)
  clear hb
  have hbw : w.heap.size ≤ b := hbl
  go_wp2_with fail
  obtain ⟨A, w2, eA, ew, b_A, hS, hW, hAb⟩ : ∃ A w2, w1.heap.size = A ∧ w1.alloc (.cells #[.int .i64 0, .int .i64 0, .int .i64 0, .int .i64 0, .int .i64 0, .int .i64 0, .int .i64 0, .int .i64 0, .int .i64 0, .int .i64 0, .int .i64 0, .int .i64 0, .int .i64 0, .int .i64 0, .int .i64 0] 54) = w2 ∧ Blk w2 A 54 #[.int .i64 Nm.zero.p.a, .int .i64 Nm.zero.p.b, .int .i64 Nm.zero.p.c, .int .i64 Nm.zero.p.d, .int .i64 Nm.zero.k, .int .i64 Nm.zero.p.a, .int .i64 Nm.zero.p.b, .int .i64 Nm.zero.p.c, .int .i64 Nm.zero.p.d, .int .i64 Nm.zero.k, .int .i64 Nm.zero.p.a, .int .i64 Nm.zero.p.b, .int .i64 Nm.zero.p.c, .int .i64 Nm.zero.p.d, .int .i64 Nm.zero.k] ∧ StoreAt w2 b b 0 ∧ Below w.heap.size w w2 ∧ b < A := ⟨_, _, rfl, rfl, Blk.new _ _ _, hS.alloc _, hW.alloc hW.size _, hS.lt⟩
  rw [eA, ew]
  clear eA ew
  go_loopg [2, 5, 6, 7, 8, 9, 10, 11, 30] 3 (fun g s2 _ _ _ _ _ _ _ s30 wr => ∃ (k : Nat) (z : Int) (l0 l1 l2 : Nm), z = k ∧ k ≤ 3 ∧ g = 3 - k ∧ s2 = .bool false ∧ s30 = .int .i64 z ∧ Blk wr A 54 #[.int .i64 l0.p.a, .int .i64 l0.p.b, .int .i64 l0.p.c, .int .i64 l0.p.d, .int .i64 l0.k, .int .i64 l1.p.a, .int .i64 l1.p.b, .int .i64 l1.p.c, .int .i64 l1.p.d, .int .i64 l1.k, .int .i64 l2.p.a, .int .i64 l2.p.b, .int .i64 l2.p.c, .int .i64 l2.p.d, .int .i64 l2.k] ∧ (0 < k → Rl l0) ∧ (1 < k → Rl l1) ∧ (2 < k → Rl l2) ∧ StoreAt wr b b (k * 100) ∧ Below w.heap.size w wr)
  case atStart => exact ⟨0, 0, Nm.zero, Nm.zero, Nm.zero, rfl, by decide, rfl, rfl, rfl, b_A, fun h => absurd h (by decide), fun h => absurd h (by decide), fun h => absurd h (by decide), hS, hW⟩
  case round =>
    obtain ⟨k, z, l0, l1, l2, hz, hk, rfl, rfl, rfl, b_A, r0, r1, r2, hS, hW⟩ := hrel
    have hwA : w.heap.size ≤ A := by omega
    rcases (show (k = 0 ∧ z = 0) ∨ (k = 1 ∧ z = 1) ∨ (k = 2 ∧ z = 2) ∨ (k = 3 ∧ z = 3) by omega) with ⟨rfl, rfl⟩ | ⟨rfl, rfl⟩ | ⟨rfl, rfl⟩ | ⟨rfl, rfl⟩
    · clear hz hk
      have n_A : A ≠ b := by omega
      have zA := b_A.lt
      go_wp2_with fail
      have hS := hS.below (Below.refl _ _)
      refine (num_calls b b _ 40 6 _ hS (by decide) (by decide) (by decide) (by decide) (by decide)).mono ?_
      rintro e w1 ⟨x, rfl, hx, hS, hg⟩
      have b_A := (b_A.below (Below.refl _ _) b_A.lt).grown hg n_A
      have hW := (hW.trans (Below.mono (Below.refl _ _) hW.size)).grown hg (by have := hW.size; (try simp); omega) (by intro k hk; injection hk with hk; omega)
      clear hg
      have hbs := hS.lt
      obtain ⟨a1, e1⟩ := norm_ex hx
      have e1 := Lib.hid e1
      go_wp2_with fail
      refine (Norm_ok _ e1.out).mono ?_
      rintro e w2 ⟨rfl, hb⟩
      have b_A := b_A.via hb (Below.refl _ _)
      have hW := below_via hW hb (Below.refl _ _)
      have hS := StoreAt.via hS hb (Below.refl _ _)
      clear hb
      go_wp2_with fail
      have hbs := hS.lt
      have hS := hS.below (below1 _ (.cells #[.int .i64 a1.p.a, .int .i64 a1.p.b, .int .i64 a1.p.c, .int .i64 a1.p.d, .int .i64 a1.k] 23))
      refine (num_calls b b _ 40 6 _ hS (by decide) (by decide) (by decide) (by decide) (by decide)).mono ?_
      rintro e w3 ⟨y, rfl, hy, hS, hg⟩
      have b_A := (b_A.below (below1 _ (.cells #[.int .i64 a1.p.a, .int .i64 a1.p.b, .int .i64 a1.p.c, .int .i64 a1.p.d, .int .i64 a1.k] 23)) b_A.lt).grown hg n_A
      have n_a : (w2.heap.size) ≠ b := by omega
      have b_a : Blk w3 (w2.heap.size) 23 #[.int .i64 a1.p.a, .int .i64 a1.p.b, .int .i64 a1.p.c, .int .i64 a1.p.d, .int .i64 a1.k] := Blk.grown (Blk.new _ _ _) hg n_a
      have hW := (hW.trans (Below.mono (below1 _ (.cells #[.int .i64 a1.p.a, .int .i64 a1.p.b, .int .i64 a1.p.c, .int .i64 a1.p.d, .int .i64 a1.k] 23)) hW.size)).grown hg (by have := hW.size; (try simp); omega) (by intro k hk; injection hk with hk; omega)
      clear hg
      have hbs := hS.lt
      obtain ⟨b1, e2⟩ := norm_ex hy
      have e2 := Lib.hid e2
      go_wp2_with fail
      refine (Norm_ok _ e2.out).mono ?_
      rintro e w4 ⟨rfl, hb⟩
      have b_A := b_A.via hb (Below.refl _ _)
      have b_a := b_a.via hb (Below.refl _ _)
      have hW := below_via hW hb (Below.refl _ _)
      have hS := StoreAt.via hS hb (Below.refl _ _)
      clear hb
      obtain ⟨d1, e3, rd⟩ := diff_of hx hy e1.out e2.out
      have e3 := Lib.hid e3
      obtain ⟨a_0, a_1, a_2, a_3, a_4, a_5⟩ := (b_a.alloc (.cells #[.int .i64 b1.p.a, .int .i64 b1.p.b, .int .i64 b1.p.c, .int .i64 b1.p.d, .int .i64 b1.k] 23)).cells5
      go_wp2_with fail
      refine (Sub_ok _ e3.out).mono ?_
      rintro e w5 ⟨rfl, hb⟩
      clear a_0 a_1 a_2 a_3 a_4 a_5
      have b_A := b_A.via hb (below1 _ _)
      clear b_a
      have hW := below_via hW hb (below1 _ _)
      have hS := StoreAt.via hS hb (below1 _ _)
      clear hb
      have b_A0 := b_A.alloc (.cells #[.int .i64 d1.p.a, .int .i64 d1.p.b, .int .i64 d1.p.c, .int .i64 d1.p.d, .int .i64 d1.k] 23)
      have zA := b_A.lt
      have A_0 := b_A0.cell 0
      have A_1 := b_A0.cell 1
      have A_2 := b_A0.cell 2
      have A_3 := b_A0.cell 3
      have A_4 := b_A0.cell 4
      have A_f := b_A0.frozen
      have C_0 := b_A.cell 0
      have C_1 := b_A.cell 1
      have C_2 := b_A.cell 2
      have C_3 := b_A.cell 3
      have C_4 := b_A.cell 4
      have C_f := b_A.frozen
      have q1 : A ≠ w5.heap.size := Nat.ne_of_lt zA
      have q2 : w5.heap.size ≠ A := Ne.symm q1
      have b_A1 : Blk ((((((w5.setCell ⟨A, 0, none⟩ (.int .i64 d1.p.a)).setCell ⟨A, 1, none⟩ (.int .i64 d1.p.b)).setCell ⟨A, 2, none⟩ (.int .i64 d1.p.c)).setCell ⟨A, 3, none⟩ (.int .i64 d1.p.d)).setCell ⟨A, 4, none⟩ (.int .i64 d1.k)).alloc (.cells #[.int .i64 d1.p.a, .int .i64 d1.p.b, .int .i64 d1.p.c, .int .i64 d1.p.d, .int .i64 d1.k] 23)) A 54 #[.int .i64 d1.p.a, .int .i64 d1.p.b, .int .i64 d1.p.c, .int .i64 d1.p.d, .int .i64 d1.k, .int .i64 l1.p.a, .int .i64 l1.p.b, .int .i64 l1.p.c, .int .i64 l1.p.d, .int .i64 l1.k, .int .i64 l2.p.a, .int .i64 l2.p.b, .int .i64 l2.p.c, .int .i64 l2.p.d, .int .i64 l2.k] := Blk.alloc (show Blk (((((w5.setCell ⟨A, 0, none⟩ (.int .i64 d1.p.a)).setCell ⟨A, 1, none⟩ (.int .i64 d1.p.b)).setCell ⟨A, 2, none⟩ (.int .i64 d1.p.c)).setCell ⟨A, 3, none⟩ (.int .i64 d1.p.d)).setCell ⟨A, 4, none⟩ (.int .i64 d1.k)) A 54 #[.int .i64 d1.p.a, .int .i64 d1.p.b, .int .i64 d1.p.c, .int .i64 d1.p.d, .int .i64 d1.k, .int .i64 l1.p.a, .int .i64 l1.p.b, .int .i64 l1.p.c, .int .i64 l1.p.d, .int .i64 l1.k, .int .i64 l2.p.a, .int .i64 l2.p.b, .int .i64 l2.p.c, .int .i64 l2.p.d, .int .i64 l2.k] from (((((b_A.set_ 0 (.int .i64 d1.p.a)).set_ 1 (.int .i64 d1.p.b)).set_ 2 (.int .i64 d1.p.c)).set_ 3 (.int .i64 d1.p.d)).set_ 4 (.int .i64 d1.k))) _
      have hS1 : StoreAt ((((((w5.setCell ⟨A, 0, none⟩ (.int .i64 d1.p.a)).setCell ⟨A, 1, none⟩ (.int .i64 d1.p.b)).setCell ⟨A, 2, none⟩ (.int .i64 d1.p.c)).setCell ⟨A, 3, none⟩ (.int .i64 d1.p.d)).setCell ⟨A, 4, none⟩ (.int .i64 d1.k)).alloc (.cells #[.int .i64 d1.p.a, .int .i64 d1.p.b, .int .i64 d1.p.c, .int .i64 d1.p.d, .int .i64 d1.k] 23)) b b ((0 * 100) + 5 + 5) := StoreAt.alloc (StoreAt.far (StoreAt.far (StoreAt.far (StoreAt.far (StoreAt.far hS n_A (Nat.le_of_lt hAb) 0 (.int .i64 d1.p.a)) n_A (Nat.le_of_lt hAb) 1 (.int .i64 d1.p.b)) n_A (Nat.le_of_lt hAb) 2 (.int .i64 d1.p.c)) n_A (Nat.le_of_lt hAb) 3 (.int .i64 d1.p.d)) n_A (Nat.le_of_lt hAb) 4 (.int .i64 d1.k)) _
      have hW0 := (Below.setCell (Below.setCell (Below.setCell (Below.setCell (Below.setCell hW (p := ⟨A, 0, none⟩) hwA (.int .i64 d1.p.a)) (p := ⟨A, 1, none⟩) hwA (.int .i64 d1.p.b)) (p := ⟨A, 2, none⟩) hwA (.int .i64 d1.p.c)) (p := ⟨A, 3, none⟩) hwA (.int .i64 d1.p.d)) (p := ⟨A, 4, none⟩) hwA (.int .i64 d1.k))
      have hW1 : Below w.heap.size w ((((((w5.setCell ⟨A, 0, none⟩ (.int .i64 d1.p.a)).setCell ⟨A, 1, none⟩ (.int .i64 d1.p.b)).setCell ⟨A, 2, none⟩ (.int .i64 d1.p.c)).setCell ⟨A, 3, none⟩ (.int .i64 d1.p.d)).setCell ⟨A, 4, none⟩ (.int .i64 d1.k)).alloc (.cells #[.int .i64 d1.p.a, .int .i64 d1.p.b, .int .i64 d1.p.c, .int .i64 d1.p.d, .int .i64 d1.k] 23)) := hW0.alloc hW0.size _
      go_wp2_with fail
      go_roundg (3 - 1)
      case measure => decide
      case rel => exact ⟨1, 1, d1, l1, l2, rfl, by decide, rfl, rfl, rfl, b_A1, fun _ => rd, fun h => absurd h (by decide), fun h => absurd h (by decide), hS1.mono (by decide), hW1⟩
    · clear hz hk
      have n_A : A ≠ b := by omega
      have zA := b_A.lt
      go_wp2_with fail
      have hS := hS.below (Below.refl _ _)
      refine (num_calls b b _ 40 6 _ hS (by decide) (by decide) (by decide) (by decide) (by decide)).mono ?_
      rintro e w1 ⟨x, rfl, hx, hS, hg⟩
      have b_A := (b_A.below (Below.refl _ _) b_A.lt).grown hg n_A
      have hW := (hW.trans (Below.mono (Below.refl _ _) hW.size)).grown hg (by have := hW.size; (try simp); omega) (by intro k hk; injection hk with hk; omega)
      clear hg
      have hbs := hS.lt
      obtain ⟨a1, e1⟩ := norm_ex hx
      have e1 := Lib.hid e1
      go_wp2_with fail
      refine (Norm_ok _ e1.out).mono ?_
      rintro e w2 ⟨rfl, hb⟩
      have b_A := b_A.via hb (Below.refl _ _)
      have hW := below_via hW hb (Below.refl _ _)
      have hS := StoreAt.via hS hb (Below.refl _ _)
      clear hb
      go_wp2_with fail
      have hbs := hS.lt
      have hS := hS.below (below1 _ (.cells #[.int .i64 a1.p.a, .int .i64 a1.p.b, .int .i64 a1.p.c, .int .i64 a1.p.d, .int .i64 a1.k] 23))
      refine (num_calls b b _ 40 6 _ hS (by decide) (by decide) (by decide) (by decide) (by decide)).mono ?_
      rintro e w3 ⟨y, rfl, hy, hS, hg⟩
      have b_A := (b_A.below (below1 _ (.cells #[.int .i64 a1.p.a, .int .i64 a1.p.b, .int .i64 a1.p.c, .int .i64 a1.p.d, .int .i64 a1.k] 23)) b_A.lt).grown hg n_A
      have n_a : (w2.heap.size) ≠ b := by omega
      have b_a : Blk w3 (w2.heap.size) 23 #[.int .i64 a1.p.a, .int .i64 a1.p.b, .int .i64 a1.p.c, .int .i64 a1.p.d, .int .i64 a1.k] := Blk.grown (Blk.new _ _ _) hg n_a
      have hW := (hW.trans (Below.mono (below1 _ (.cells #[.int .i64 a1.p.a, .int .i64 a1.p.b, .int .i64 a1.p.c, .int .i64 a1.p.d, .int .i64 a1.k] 23)) hW.size)).grown hg (by have := hW.size; (try simp); omega) (by intro k hk; injection hk with hk; omega)
      clear hg
      have hbs := hS.lt
      obtain ⟨b1, e2⟩ := norm_ex hy
      have e2 := Lib.hid e2
      go_wp2_with fail
      refine (Norm_ok _ e2.out).mono ?_
      rintro e w4 ⟨rfl, hb⟩
      have b_A := b_A.via hb (Below.refl _ _)
      have b_a := b_a.via hb (Below.refl _ _)
      have hW := below_via hW hb (Below.refl _ _)
      have hS := StoreAt.via hS hb (Below.refl _ _)
      clear hb
      obtain ⟨d1, e3, rd⟩ := diff_of hx hy e1.out e2.out
      have e3 := Lib.hid e3
      obtain ⟨a_0, a_1, a_2, a_3, a_4, a_5⟩ := (b_a.alloc (.cells #[.int .i64 b1.p.a, .int .i64 b1.p.b, .int .i64 b1.p.c, .int .i64 b1.p.d, .int .i64 b1.k] 23)).cells5
      go_wp2_with fail
      refine (Sub_ok _ e3.out).mono ?_
      rintro e w5 ⟨rfl, hb⟩
      clear a_0 a_1 a_2 a_3 a_4 a_5
      have b_A := b_A.via hb (below1 _ _)
      clear b_a
      have hW := below_via hW hb (below1 _ _)
      have hS := StoreAt.via hS hb (below1 _ _)
      clear hb
      have b_A0 := b_A.alloc (.cells #[.int .i64 d1.p.a, .int .i64 d1.p.b, .int .i64 d1.p.c, .int .i64 d1.p.d, .int .i64 d1.k] 23)
      have zA := b_A.lt
      have A_0 := b_A0.cell 5
      have A_1 := b_A0.cell 6
      have A_2 := b_A0.cell 7
      have A_3 := b_A0.cell 8
      have A_4 := b_A0.cell 9
      have A_f := b_A0.frozen
      have C_0 := b_A.cell 5
      have C_1 := b_A.cell 6
      have C_2 := b_A.cell 7
      have C_3 := b_A.cell 8
      have C_4 := b_A.cell 9
      have C_f := b_A.frozen
      have q1 : A ≠ w5.heap.size := Nat.ne_of_lt zA
      have q2 : w5.heap.size ≠ A := Ne.symm q1
      have b_A1 : Blk ((((((w5.setCell ⟨A, 5, none⟩ (.int .i64 d1.p.a)).setCell ⟨A, 6, none⟩ (.int .i64 d1.p.b)).setCell ⟨A, 7, none⟩ (.int .i64 d1.p.c)).setCell ⟨A, 8, none⟩ (.int .i64 d1.p.d)).setCell ⟨A, 9, none⟩ (.int .i64 d1.k)).alloc (.cells #[.int .i64 d1.p.a, .int .i64 d1.p.b, .int .i64 d1.p.c, .int .i64 d1.p.d, .int .i64 d1.k] 23)) A 54 #[.int .i64 l0.p.a, .int .i64 l0.p.b, .int .i64 l0.p.c, .int .i64 l0.p.d, .int .i64 l0.k, .int .i64 d1.p.a, .int .i64 d1.p.b, .int .i64 d1.p.c, .int .i64 d1.p.d, .int .i64 d1.k, .int .i64 l2.p.a, .int .i64 l2.p.b, .int .i64 l2.p.c, .int .i64 l2.p.d, .int .i64 l2.k] := Blk.alloc (show Blk (((((w5.setCell ⟨A, 5, none⟩ (.int .i64 d1.p.a)).setCell ⟨A, 6, none⟩ (.int .i64 d1.p.b)).setCell ⟨A, 7, none⟩ (.int .i64 d1.p.c)).setCell ⟨A, 8, none⟩ (.int .i64 d1.p.d)).setCell ⟨A, 9, none⟩ (.int .i64 d1.k)) A 54 #[.int .i64 l0.p.a, .int .i64 l0.p.b, .int .i64 l0.p.c, .int .i64 l0.p.d, .int .i64 l0.k, .int .i64 d1.p.a, .int .i64 d1.p.b, .int .i64 d1.p.c, .int .i64 d1.p.d, .int .i64 d1.k, .int .i64 l2.p.a, .int .i64 l2.p.b, .int .i64 l2.p.c, .int .i64 l2.p.d, .int .i64 l2.k] from (((((b_A.set_ 5 (.int .i64 d1.p.a)).set_ 6 (.int .i64 d1.p.b)).set_ 7 (.int .i64 d1.p.c)).set_ 8 (.int .i64 d1.p.d)).set_ 9 (.int .i64 d1.k))) _
      have hS1 : StoreAt ((((((w5.setCell ⟨A, 5, none⟩ (.int .i64 d1.p.a)).setCell ⟨A, 6, none⟩ (.int .i64 d1.p.b)).setCell ⟨A, 7, none⟩ (.int .i64 d1.p.c)).setCell ⟨A, 8, none⟩ (.int .i64 d1.p.d)).setCell ⟨A, 9, none⟩ (.int .i64 d1.k)).alloc (.cells #[.int .i64 d1.p.a, .int .i64 d1.p.b, .int .i64 d1.p.c, .int .i64 d1.p.d, .int .i64 d1.k] 23)) b b ((1 * 100) + 5 + 5) := StoreAt.alloc (StoreAt.far (StoreAt.far (StoreAt.far (StoreAt.far (StoreAt.far hS n_A (Nat.le_of_lt hAb) 5 (.int .i64 d1.p.a)) n_A (Nat.le_of_lt hAb) 6 (.int .i64 d1.p.b)) n_A (Nat.le_of_lt hAb) 7 (.int .i64 d1.p.c)) n_A (Nat.le_of_lt hAb) 8 (.int .i64 d1.p.d)) n_A (Nat.le_of_lt hAb) 9 (.int .i64 d1.k)) _
      have hW0 := (Below.setCell (Below.setCell (Below.setCell (Below.setCell (Below.setCell hW (p := ⟨A, 5, none⟩) hwA (.int .i64 d1.p.a)) (p := ⟨A, 6, none⟩) hwA (.int .i64 d1.p.b)) (p := ⟨A, 7, none⟩) hwA (.int .i64 d1.p.c)) (p := ⟨A, 8, none⟩) hwA (.int .i64 d1.p.d)) (p := ⟨A, 9, none⟩) hwA (.int .i64 d1.k))
      have hW1 : Below w.heap.size w ((((((w5.setCell ⟨A, 5, none⟩ (.int .i64 d1.p.a)).setCell ⟨A, 6, none⟩ (.int .i64 d1.p.b)).setCell ⟨A, 7, none⟩ (.int .i64 d1.p.c)).setCell ⟨A, 8, none⟩ (.int .i64 d1.p.d)).setCell ⟨A, 9, none⟩ (.int .i64 d1.k)).alloc (.cells #[.int .i64 d1.p.a, .int .i64 d1.p.b, .int .i64 d1.p.c, .int .i64 d1.p.d, .int .i64 d1.k] 23)) := hW0.alloc hW0.size _
      go_wp2_with fail
      refine (seldom_calls b b _ 4 _ hS1 (by decide) (by decide) (by decide)).mono ?_
      rintro e w9 ⟨v, rfl, hS2, hg⟩
      have b_A2 := b_A1.grown hg n_A
      have hW2 := hW1.grown hg (by have := hW1.size; omega) (by intro k hk; injection hk with hk; omega)
      clear hg hS1 hW1 hW0 b_A1 b_A0 A_0 A_1 A_2 A_3 A_4 A_f C_0 C_1 C_2 C_3 C_4 C_f q1 q2 b_A hS hW
      cases v
      · go_wp2_with fail
        go_roundg (3 - 2)
        case measure => decide
        case rel => exact ⟨2, 2, l0, d1, l2, rfl, by decide, rfl, rfl, rfl, b_A2, fun _ => r0 (by decide), fun _ => rd, fun h => absurd h (by decide), hS2.mono (by decide), hW2⟩
      · have A_0 := b_A2.cell 5
        have B_0 := b_A2.cell 0
        have A_1 := b_A2.cell 6
        have B_1 := b_A2.cell 1
        have A_2 := b_A2.cell 7
        have B_2 := b_A2.cell 2
        have A_3 := b_A2.cell 8
        have B_3 := b_A2.cell 3
        have A_4 := b_A2.cell 9
        have B_4 := b_A2.cell 4
        have A_f := b_A2.frozen
        have b_A3 : Blk (((((w9.setCell ⟨A, 5, none⟩ (.int .i64 l0.p.a)).setCell ⟨A, 6, none⟩ (.int .i64 l0.p.b)).setCell ⟨A, 7, none⟩ (.int .i64 l0.p.c)).setCell ⟨A, 8, none⟩ (.int .i64 l0.p.d)).setCell ⟨A, 9, none⟩ (.int .i64 l0.k)) A 54 #[.int .i64 l0.p.a, .int .i64 l0.p.b, .int .i64 l0.p.c, .int .i64 l0.p.d, .int .i64 l0.k, .int .i64 l0.p.a, .int .i64 l0.p.b, .int .i64 l0.p.c, .int .i64 l0.p.d, .int .i64 l0.k, .int .i64 l2.p.a, .int .i64 l2.p.b, .int .i64 l2.p.c, .int .i64 l2.p.d, .int .i64 l2.k] := (((((b_A2.set_ 5 (.int .i64 l0.p.a)).set_ 6 (.int .i64 l0.p.b)).set_ 7 (.int .i64 l0.p.c)).set_ 8 (.int .i64 l0.p.d)).set_ 9 (.int .i64 l0.k))
        have hS3 := (StoreAt.far (StoreAt.far (StoreAt.far (StoreAt.far (StoreAt.far hS2 n_A (Nat.le_of_lt hAb) 5 (.int .i64 l0.p.a)) n_A (Nat.le_of_lt hAb) 6 (.int .i64 l0.p.b)) n_A (Nat.le_of_lt hAb) 7 (.int .i64 l0.p.c)) n_A (Nat.le_of_lt hAb) 8 (.int .i64 l0.p.d)) n_A (Nat.le_of_lt hAb) 9 (.int .i64 l0.k))
        have hW3 := (Below.setCell (Below.setCell (Below.setCell (Below.setCell (Below.setCell hW2 (p := ⟨A, 5, none⟩) hwA (.int .i64 l0.p.a)) (p := ⟨A, 6, none⟩) hwA (.int .i64 l0.p.b)) (p := ⟨A, 7, none⟩) hwA (.int .i64 l0.p.c)) (p := ⟨A, 8, none⟩) hwA (.int .i64 l0.p.d)) (p := ⟨A, 9, none⟩) hwA (.int .i64 l0.k))
        go_wp2_with fail
        go_roundg (3 - 2)
        case measure => decide
        case rel => exact ⟨2, 2, l0, l0, l2, rfl, by decide, rfl, rfl, rfl, b_A3, fun _ => r0 (by decide), fun _ => r0 (by decide), fun h => absurd h (by decide), hS3.mono (by decide), hW3⟩
    · clear hz hk
      have n_A : A ≠ b := by omega
      have zA := b_A.lt
      go_wp2_with fail
      have hS := hS.below (Below.refl _ _)
      refine (num_calls b b _ 40 6 _ hS (by decide) (by decide) (by decide) (by decide) (by decide)).mono ?_
      rintro e w1 ⟨x, rfl, hx, hS, hg⟩
      have b_A := (b_A.below (Below.refl _ _) b_A.lt).grown hg n_A
      have hW := (hW.trans (Below.mono (Below.refl _ _) hW.size)).grown hg (by have := hW.size; (try simp); omega) (by intro k hk; injection hk with hk; omega)
      clear hg
      have hbs := hS.lt
      obtain ⟨a1, e1⟩ := norm_ex hx
      have e1 := Lib.hid e1
      go_wp2_with fail
      refine (Norm_ok _ e1.out).mono ?_
      rintro e w2 ⟨rfl, hb⟩
      have b_A := b_A.via hb (Below.refl _ _)
      have hW := below_via hW hb (Below.refl _ _)
      have hS := StoreAt.via hS hb (Below.refl _ _)
      clear hb
      go_wp2_with fail
      have hbs := hS.lt
      have hS := hS.below (below1 _ (.cells #[.int .i64 a1.p.a, .int .i64 a1.p.b, .int .i64 a1.p.c, .int .i64 a1.p.d, .int .i64 a1.k] 23))
      refine (num_calls b b _ 40 6 _ hS (by decide) (by decide) (by decide) (by decide) (by decide)).mono ?_
      rintro e w3 ⟨y, rfl, hy, hS, hg⟩
      have b_A := (b_A.below (below1 _ (.cells #[.int .i64 a1.p.a, .int .i64 a1.p.b, .int .i64 a1.p.c, .int .i64 a1.p.d, .int .i64 a1.k] 23)) b_A.lt).grown hg n_A
      have n_a : (w2.heap.size) ≠ b := by omega
      have b_a : Blk w3 (w2.heap.size) 23 #[.int .i64 a1.p.a, .int .i64 a1.p.b, .int .i64 a1.p.c, .int .i64 a1.p.d, .int .i64 a1.k] := Blk.grown (Blk.new _ _ _) hg n_a
      have hW := (hW.trans (Below.mono (below1 _ (.cells #[.int .i64 a1.p.a, .int .i64 a1.p.b, .int .i64 a1.p.c, .int .i64 a1.p.d, .int .i64 a1.k] 23)) hW.size)).grown hg (by have := hW.size; (try simp); omega) (by intro k hk; injection hk with hk; omega)
      clear hg
      have hbs := hS.lt
      obtain ⟨b1, e2⟩ := norm_ex hy
      have e2 := Lib.hid e2
      go_wp2_with fail
      refine (Norm_ok _ e2.out).mono ?_
      rintro e w4 ⟨rfl, hb⟩
      have b_A := b_A.via hb (Below.refl _ _)
      have b_a := b_a.via hb (Below.refl _ _)
      have hW := below_via hW hb (Below.refl _ _)
      have hS := StoreAt.via hS hb (Below.refl _ _)
      clear hb
      obtain ⟨d1, e3, rd⟩ := diff_of hx hy e1.out e2.out
      have e3 := Lib.hid e3
      obtain ⟨a_0, a_1, a_2, a_3, a_4, a_5⟩ := (b_a.alloc (.cells #[.int .i64 b1.p.a, .int .i64 b1.p.b, .int .i64 b1.p.c, .int .i64 b1.p.d, .int .i64 b1.k] 23)).cells5
      go_wp2_with fail
      refine (Sub_ok _ e3.out).mono ?_
      rintro e w5 ⟨rfl, hb⟩
      clear a_0 a_1 a_2 a_3 a_4 a_5
      have b_A := b_A.via hb (below1 _ _)
      clear b_a
      have hW := below_via hW hb (below1 _ _)
      have hS := StoreAt.via hS hb (below1 _ _)
      clear hb
      have b_A0 := b_A.alloc (.cells #[.int .i64 d1.p.a, .int .i64 d1.p.b, .int .i64 d1.p.c, .int .i64 d1.p.d, .int .i64 d1.k] 23)
      have zA := b_A.lt
      have A_0 := b_A0.cell 10
      have A_1 := b_A0.cell 11
      have A_2 := b_A0.cell 12
      have A_3 := b_A0.cell 13
      have A_4 := b_A0.cell 14
      have A_f := b_A0.frozen
      have C_0 := b_A.cell 10
      have C_1 := b_A.cell 11
      have C_2 := b_A.cell 12
      have C_3 := b_A.cell 13
      have C_4 := b_A.cell 14
      have C_f := b_A.frozen
      have q1 : A ≠ w5.heap.size := Nat.ne_of_lt zA
      have q2 : w5.heap.size ≠ A := Ne.symm q1
      have b_A1 : Blk ((((((w5.setCell ⟨A, 10, none⟩ (.int .i64 d1.p.a)).setCell ⟨A, 11, none⟩ (.int .i64 d1.p.b)).setCell ⟨A, 12, none⟩ (.int .i64 d1.p.c)).setCell ⟨A, 13, none⟩ (.int .i64 d1.p.d)).setCell ⟨A, 14, none⟩ (.int .i64 d1.k)).alloc (.cells #[.int .i64 d1.p.a, .int .i64 d1.p.b, .int .i64 d1.p.c, .int .i64 d1.p.d, .int .i64 d1.k] 23)) A 54 #[.int .i64 l0.p.a, .int .i64 l0.p.b, .int .i64 l0.p.c, .int .i64 l0.p.d, .int .i64 l0.k, .int .i64 l1.p.a, .int .i64 l1.p.b, .int .i64 l1.p.c, .int .i64 l1.p.d, .int .i64 l1.k, .int .i64 d1.p.a, .int .i64 d1.p.b, .int .i64 d1.p.c, .int .i64 d1.p.d, .int .i64 d1.k] := Blk.alloc (show Blk (((((w5.setCell ⟨A, 10, none⟩ (.int .i64 d1.p.a)).setCell ⟨A, 11, none⟩ (.int .i64 d1.p.b)).setCell ⟨A, 12, none⟩ (.int .i64 d1.p.c)).setCell ⟨A, 13, none⟩ (.int .i64 d1.p.d)).setCell ⟨A, 14, none⟩ (.int .i64 d1.k)) A 54 #[.int .i64 l0.p.a, .int .i64 l0.p.b, .int .i64 l0.p.c, .int .i64 l0.p.d, .int .i64 l0.k, .int .i64 l1.p.a, .int .i64 l1.p.b, .int .i64 l1.p.c, .int .i64 l1.p.d, .int .i64 l1.k, .int .i64 d1.p.a, .int .i64 d1.p.b, .int .i64 d1.p.c, .int .i64 d1.p.d, .int .i64 d1.k] from (((((b_A.set_ 10 (.int .i64 d1.p.a)).set_ 11 (.int .i64 d1.p.b)).set_ 12 (.int .i64 d1.p.c)).set_ 13 (.int .i64 d1.p.d)).set_ 14 (.int .i64 d1.k))) _
      have hS1 : StoreAt ((((((w5.setCell ⟨A, 10, none⟩ (.int .i64 d1.p.a)).setCell ⟨A, 11, none⟩ (.int .i64 d1.p.b)).setCell ⟨A, 12, none⟩ (.int .i64 d1.p.c)).setCell ⟨A, 13, none⟩ (.int .i64 d1.p.d)).setCell ⟨A, 14, none⟩ (.int .i64 d1.k)).alloc (.cells #[.int .i64 d1.p.a, .int .i64 d1.p.b, .int .i64 d1.p.c, .int .i64 d1.p.d, .int .i64 d1.k] 23)) b b ((2 * 100) + 5 + 5) := StoreAt.alloc (StoreAt.far (StoreAt.far (StoreAt.far (StoreAt.far (StoreAt.far hS n_A (Nat.le_of_lt hAb) 10 (.int .i64 d1.p.a)) n_A (Nat.le_of_lt hAb) 11 (.int .i64 d1.p.b)) n_A (Nat.le_of_lt hAb) 12 (.int .i64 d1.p.c)) n_A (Nat.le_of_lt hAb) 13 (.int .i64 d1.p.d)) n_A (Nat.le_of_lt hAb) 14 (.int .i64 d1.k)) _
      have hW0 := (Below.setCell (Below.setCell (Below.setCell (Below.setCell (Below.setCell hW (p := ⟨A, 10, none⟩) hwA (.int .i64 d1.p.a)) (p := ⟨A, 11, none⟩) hwA (.int .i64 d1.p.b)) (p := ⟨A, 12, none⟩) hwA (.int .i64 d1.p.c)) (p := ⟨A, 13, none⟩) hwA (.int .i64 d1.p.d)) (p := ⟨A, 14, none⟩) hwA (.int .i64 d1.k))
      have hW1 : Below w.heap.size w ((((((w5.setCell ⟨A, 10, none⟩ (.int .i64 d1.p.a)).setCell ⟨A, 11, none⟩ (.int .i64 d1.p.b)).setCell ⟨A, 12, none⟩ (.int .i64 d1.p.c)).setCell ⟨A, 13, none⟩ (.int .i64 d1.p.d)).setCell ⟨A, 14, none⟩ (.int .i64 d1.k)).alloc (.cells #[.int .i64 d1.p.a, .int .i64 d1.p.b, .int .i64 d1.p.c, .int .i64 d1.p.d, .int .i64 d1.k] 23)) := hW0.alloc hW0.size _
      go_wp2_with fail
      refine (seldom_calls b b _ 4 _ hS1 (by decide) (by decide) (by decide)).mono ?_
      rintro e w9 ⟨v, rfl, hS2, hg⟩
      have b_A2 := b_A1.grown hg n_A
      have hW2 := hW1.grown hg (by have := hW1.size; omega) (by intro k hk; injection hk with hk; omega)
      clear hg hS1 hW1 hW0 b_A1 b_A0 A_0 A_1 A_2 A_3 A_4 A_f C_0 C_1 C_2 C_3 C_4 C_f q1 q2 b_A hS hW
      cases v
      · go_wp2_with fail
        go_roundg (3 - 3)
        case measure => decide
        case rel => exact ⟨3, 3, l0, l1, d1, rfl, by decide, rfl, rfl, rfl, b_A2, fun _ => r0 (by decide), fun _ => r1 (by decide), fun _ => rd, hS2.mono (by decide), hW2⟩
      · have A_0 := b_A2.cell 10
        have B_0 := b_A2.cell 5
        have A_1 := b_A2.cell 11
        have B_1 := b_A2.cell 6
        have A_2 := b_A2.cell 12
        have B_2 := b_A2.cell 7
        have A_3 := b_A2.cell 13
        have B_3 := b_A2.cell 8
        have A_4 := b_A2.cell 14
        have B_4 := b_A2.cell 9
        have A_f := b_A2.frozen
        have b_A3 : Blk (((((w9.setCell ⟨A, 10, none⟩ (.int .i64 l1.p.a)).setCell ⟨A, 11, none⟩ (.int .i64 l1.p.b)).setCell ⟨A, 12, none⟩ (.int .i64 l1.p.c)).setCell ⟨A, 13, none⟩ (.int .i64 l1.p.d)).setCell ⟨A, 14, none⟩ (.int .i64 l1.k)) A 54 #[.int .i64 l0.p.a, .int .i64 l0.p.b, .int .i64 l0.p.c, .int .i64 l0.p.d, .int .i64 l0.k, .int .i64 l1.p.a, .int .i64 l1.p.b, .int .i64 l1.p.c, .int .i64 l1.p.d, .int .i64 l1.k, .int .i64 l1.p.a, .int .i64 l1.p.b, .int .i64 l1.p.c, .int .i64 l1.p.d, .int .i64 l1.k] := (((((b_A2.set_ 10 (.int .i64 l1.p.a)).set_ 11 (.int .i64 l1.p.b)).set_ 12 (.int .i64 l1.p.c)).set_ 13 (.int .i64 l1.p.d)).set_ 14 (.int .i64 l1.k))
        have hS3 := (StoreAt.far (StoreAt.far (StoreAt.far (StoreAt.far (StoreAt.far hS2 n_A (Nat.le_of_lt hAb) 10 (.int .i64 l1.p.a)) n_A (Nat.le_of_lt hAb) 11 (.int .i64 l1.p.b)) n_A (Nat.le_of_lt hAb) 12 (.int .i64 l1.p.c)) n_A (Nat.le_of_lt hAb) 13 (.int .i64 l1.p.d)) n_A (Nat.le_of_lt hAb) 14 (.int .i64 l1.k))
        have hW3 := (Below.setCell (Below.setCell (Below.setCell (Below.setCell (Below.setCell hW2 (p := ⟨A, 10, none⟩) hwA (.int .i64 l1.p.a)) (p := ⟨A, 11, none⟩) hwA (.int .i64 l1.p.b)) (p := ⟨A, 12, none⟩) hwA (.int .i64 l1.p.c)) (p := ⟨A, 13, none⟩) hwA (.int .i64 l1.p.d)) (p := ⟨A, 14, none⟩) hwA (.int .i64 l1.k))
        go_wp2_with fail
        go_roundg (3 - 3)
        case measure => decide
        case rel => exact ⟨3, 3, l0, l1, l1, rfl, by decide, rfl, rfl, rfl, b_A3, fun _ => r0 (by decide), fun _ => r1 (by decide), fun _ => r1 (by decide), hS3.mono (by decide), hW3⟩
    · clear hz hk hS
      have r0 := r0 (by decide)
      have r1 := r1 (by decide)
      have r2 := r2 (by decide)
      obtain ⟨a1, b1, s1, d1, i1, p1, q1, e1, e2, e3, e4, e5, e6, e7, e8, h1, h2⟩ := ordered_plain r0 r1 r2
      have e1 := Lib.hid e1
      have e2 := Lib.hid e2
      have e3 := Lib.hid e3
      have e4 := Lib.hid e4
      have e5 := Lib.hid e5
      have e6 := Lib.hid e6
      have e7 := Lib.hid e7
      have e8 := Lib.hid e8
      have zA := b_A.lt
      go_wp2_with fail
      go_cut [12, 13, 14] (fun s12 s13 s14 wx => ∃ X Y Z : Nat, s12 = .pointer (some ⟨X, 0, none⟩) ∧ s13 = .pointer (some ⟨Y, 0, none⟩) ∧ s14 = .pointer (some ⟨Z, 0, none⟩) ∧ Blk wx X 23 #[.int .i64 l0.p.a, .int .i64 l0.p.b, .int .i64 l0.p.c, .int .i64 l0.p.d, .int .i64 l0.k] ∧ Blk wx Y 23 #[.int .i64 l1.p.a, .int .i64 l1.p.b, .int .i64 l1.p.c, .int .i64 l1.p.d, .int .i64 l1.k] ∧ Blk wx Z 23 #[.int .i64 l2.p.a, .int .i64 l2.p.b, .int .i64 l2.p.c, .int .i64 l2.p.d, .int .i64 l2.k] ∧ Below w.heap.size w wx)
      case first =>
        clear e1 e2 e3 e4 e5 e6 e7 e8 h1 h2 r0 r1 r2
        have A_0 := b_A.cell 0
        have A_1 := b_A.cell 1
        have A_2 := b_A.cell 2
        have A_3 := b_A.cell 3
        have A_4 := b_A.cell 4
        have A_5 := b_A.cell 5
        have A_6 := b_A.cell 6
        have A_7 := b_A.cell 7
        have A_8 := b_A.cell 8
        have A_9 := b_A.cell 9
        have A_10 := b_A.cell 10
        have A_11 := b_A.cell 11
        have A_12 := b_A.cell 12
        have A_13 := b_A.cell 13
        have A_14 := b_A.cell 14
        have zA1 : A < wr.heap.size + 1 := by omega
        have zA2 : A < wr.heap.size + 1 + 1 := by omega
        go_region
        all_goals go_wp2_with fail
        all_goals go_meet
        all_goals (refine ⟨_, _, _, rfl, rfl, rfl, ?_, ?_, ?_, ?_⟩ <;> first | exact three1 _ _ _ _ _ _ _ | exact three2 _ _ _ _ _ _ _ | exact three3 _ _ _ _ _ _ _ | exact three_below hW _ _ _ _ _ _)
      case rest =>
        obtain ⟨X, Y, Z, rfl, rfl, rfl, b_x, b_y, b_z, hW⟩ := hcut
        rcases h1 with ⟨rfl, rfl, rfl⟩ | ⟨rfl, rfl, rfl⟩ | ⟨rfl, rfl, rfl⟩
        all_goals
          obtain ⟨x_0, x_1, x_2, x_3, x_4, x_5⟩ := b_x.cells5
          obtain ⟨y_0, y_1, y_2, y_3, y_4, y_5⟩ := b_y.cells5
          go_wp2_with fail
          refine (Less_ok _ e1.out).mono ?_
          rintro e w1 ⟨rfl, hb⟩
          clear x_0 x_1 x_2 x_3 x_4 x_5 y_0 y_1 y_2 y_3 y_4 y_5
          have b_x := b_x.via hb (Below.refl _ _)
          have b_y := b_y.via hb (Below.refl _ _)
          have b_z := b_z.via hb (Below.refl _ _)
          have hW := below_via hW hb (Below.refl _ _)
          clear hb
          obtain ⟨x_0, x_1, x_2, x_3, x_4, x_5⟩ := b_x.cells5
          obtain ⟨y_0, y_1, y_2, y_3, y_4, y_5⟩ := b_y.cells5
          go_wp2_with fail
          refine (Less_ok _ e2.out).mono ?_
          rintro e w2 ⟨rfl, hb⟩
          clear x_0 x_1 x_2 x_3 x_4 x_5 y_0 y_1 y_2 y_3 y_4 y_5
          have b_x := b_x.via hb (Below.refl _ _)
          have b_y := b_y.via hb (Below.refl _ _)
          have b_z := b_z.via hb (Below.refl _ _)
          have hW := below_via hW hb (Below.refl _ _)
          clear hb
          obtain ⟨x_0, x_1, x_2, x_3, x_4, x_5⟩ := b_x.cells5
          obtain ⟨y_0, y_1, y_2, y_3, y_4, y_5⟩ := b_y.cells5
          go_wp2_with fail
          refine (Same_ok _ e3.out).mono ?_
          rintro e w3 ⟨rfl, hb⟩
          clear x_0 x_1 x_2 x_3 x_4 x_5 y_0 y_1 y_2 y_3 y_4 y_5
          have b_x := b_x.via hb (Below.refl _ _)
          have b_y := b_y.via hb (Below.refl _ _)
          have b_z := b_z.via hb (Below.refl _ _)
          have hW := below_via hW hb (Below.refl _ _)
          clear hb
          obtain ⟨x_0, x_1, x_2, x_3, x_4, x_5⟩ := b_x.cells5
          obtain ⟨z_0, z_1, z_2, z_3, z_4, z_5⟩ := b_z.cells5
          go_wp2_with fail
          refine (Add_ok _ e4.out).mono ?_
          rintro e w4 ⟨rfl, hb⟩
          clear x_0 x_1 x_2 x_3 x_4 x_5 z_0 z_1 z_2 z_3 z_4 z_5
          have b_x := b_x.via hb (Below.refl _ _)
          have b_y := b_y.via hb (Below.refl _ _)
          have b_z := b_z.via hb (Below.refl _ _)
          have hW := below_via hW hb (Below.refl _ _)
          clear hb
          obtain ⟨y_0, y_1, y_2, y_3, y_4, y_5⟩ := (b_y.alloc (.cells #[.int .i64 p1.p.a, .int .i64 p1.p.b, .int .i64 p1.p.c, .int .i64 p1.p.d, .int .i64 p1.k] 23)).cells5
          obtain ⟨z_0, z_1, z_2, z_3, z_4, z_5⟩ := (b_z.alloc (.cells #[.int .i64 p1.p.a, .int .i64 p1.p.b, .int .i64 p1.p.c, .int .i64 p1.p.d, .int .i64 p1.k] 23)).cells5
          go_wp2_with fail
          refine (Add_ok _ e5.out).mono ?_
          rintro e w5 ⟨rfl, hb⟩
          clear y_0 y_1 y_2 y_3 y_4 y_5 z_0 z_1 z_2 z_3 z_4 z_5
          have b_x := b_x.via hb (below1 _ _)
          have b_y := b_y.via hb (below1 _ _)
          have b_z := b_z.via hb (below1 _ _)
          have b_p : Blk w5 (w4.heap.size) 23 #[.int .i64 p1.p.a, .int .i64 p1.p.b, .int .i64 p1.p.c, .int .i64 p1.p.d, .int .i64 p1.k] := Blk.newb hb
          have hW := below_via hW hb (below1 _ _)
          clear hb
          obtain ⟨p_0, p_1, p_2, p_3, p_4, p_5⟩ := (b_p.alloc (.cells #[.int .i64 q1.p.a, .int .i64 q1.p.b, .int .i64 q1.p.c, .int .i64 q1.p.d, .int .i64 q1.k] 23)).cells5
          go_wp2_with fail
          refine (Less_ok _ e6.out).mono ?_
          rintro e w6 ⟨rfl, hb⟩
          clear p_0 p_1 p_2 p_3 p_4 p_5
          have b_x := b_x.via hb (below1 _ _)
          have b_y := b_y.via hb (below1 _ _)
          have b_z := b_z.via hb (below1 _ _)
          clear b_p
          have hW := below_via hW hb (below1 _ _)
          clear hb
          obtain ⟨y_0, y_1, y_2, y_3, y_4, y_5⟩ := b_y.cells5
          obtain ⟨z_0, z_1, z_2, z_3, z_4, z_5⟩ := b_z.cells5
          go_wp2_with fail
          refine (Less_ok _ e7.out).mono ?_
          rintro e w7 ⟨rfl, hb⟩
          clear y_0 y_1 y_2 y_3 y_4 y_5 z_0 z_1 z_2 z_3 z_4 z_5
          have b_x := b_x.via hb (Below.refl _ _)
          clear b_y
          have b_z := b_z.via hb (Below.refl _ _)
          have hW := below_via hW hb (Below.refl _ _)
          clear hb
          obtain ⟨x_0, x_1, x_2, x_3, x_4, x_5⟩ := b_x.cells5
          obtain ⟨z_0, z_1, z_2, z_3, z_4, z_5⟩ := b_z.cells5
          go_wp2_with fail
          refine (Less_ok _ e8.out).mono ?_
          rintro e w8 ⟨rfl, hb⟩
          clear x_0 x_1 x_2 x_3 x_4 x_5 z_0 z_1 z_2 z_3 z_4 z_5
          clear b_x
          clear b_z
          have hW := below_via hW hb (Below.refl _ _)
          clear hb
          cases d1 <;> cases i1
          all_goals
            first
              | exact absurd (h2 (by first | rfl | trivial) (by first | rfl | trivial)) (by decide)
              | (go_wp2_with fail; refine (HAW _ (ht.via hW)).mono ?_; rintro e w9 ⟨rfl, hb⟩; have hW := below_via hW hb (Below.refl _ _); clear hb; go_wp2_with fail; go_ret; exact ⟨rfl, hW⟩)
end Go.Proofs.YtlglmooknlmomaaDoor
end
