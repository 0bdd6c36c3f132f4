import Derived.Test.YtlglmooknlmomaaDoorC18
import Derived.Test.YtlglmooknlmomaaDoorCTold0
set_option linter.all false
section
namespace Go.Proofs.YtlglmooknlmomaaDoor
open Go.RowKit
attribute [local go_sem] Oper.semAt_some
attribute [local go_sem high] eqNum
set_option maxRecDepth 100000 in
set_option maxHeartbeats 8000000 in
theorem RingTold_walk (HAW : ∀ w : World, Tabs w → Calls Tryd.prog 15 #[] w fun e w' => e = .returned (.bool true) ∧ Below w.heap.size w w') (a : Option Addr) (n c : Nat) (far : Bool) (w : World) (ht : Tabs w) (hB : BytesAt w a n) (ha : a = none → n = 0) (hc : n ≤ c) :
    Calls Tryd.prog 9 #[.slice a n c, .bool far] w fun e w' => e = .returned (.bool true) ∧ Below w.heap.size w w' := by
  cases far
  · have hW := Below.refl w.heap.size w
    go_enter Tryd.func9, Tryd.ntmps9
    go_wp2_with fail
    refine (store_calls a n c _ hB ha hc).mono ?_
    rintro e w1 ⟨b, rfl, hbl, hS, hb⟩
    have hW := below_via hW hb (Below.refl _ _)
    clear hb
    go_wp2_with fail
    have hS := hS.below (Below.refl _ _)
    refine (num_calls b b _ 3 3 _ hS (by decide) (by decide) (by decide) (by decide) (by decide)).mono ?_
    rintro e w2 ⟨x, rfl, hx, hS, hg⟩
    have hW := (hW.trans (Below.mono (Below.refl _ _) hW.size)).grown hg (by have := hW.size; (try simp); omega) (by intro k hk; injection hk with hk; omega)
    clear hg
    have hbs := hS.lt
    go_wp2_with fail
    have hS := hS.below (Below.refl _ _)
    refine (num_calls b b _ 3 3 _ hS (by decide) (by decide) (by decide) (by decide) (by decide)).mono ?_
    rintro e w3 ⟨y, rfl, hy, hS, hg⟩
    have hW := (hW.trans (Below.mono (Below.refl _ _) hW.size)).grown hg (by have := hW.size; (try simp); omega) (by intro k hk; injection hk with hk; omega)
    clear hg
    have hbs := hS.lt
    clear hS hbs
    have hX := hx.chk (by decide) (by decide)
    have hY := hy.chk (by decide) (by decide)
    obtain ⟨s1, t1, z1, l1, e1, e2, e3, e4, e5, e6, e7⟩ := told_plain (x := x) (y := y) hX hY
    have e1 := Lib.hid e1
    have e2 := Lib.hid e2
    have e3 := Lib.hid e3
    have e4 := Lib.hid e4
    have e5 := Lib.hid e5
    have e6 := Lib.hid e6
    have q := told_eq e7
    clear e7 hX hY
    go_wp2_with fail
    refine (Print_ok _ e1.out (ht.via ((hW.alloc hW.size _).alloc (by have := hW.size; simp; omega) _))).mono ?_
    rintro e w4 ⟨rfl, hb⟩
    have b_x : Blk w4 (w3.heap.size) 23 #[.int .i64 x.p.a, .int .i64 x.p.b, .int .i64 x.p.c, .int .i64 x.p.d, .int .i64 x.k] := Blk.new20 hb
    have b_y : Blk w4 (w3.heap.size + 1) 23 #[.int .i64 y.p.a, .int .i64 y.p.b, .int .i64 y.p.c, .int .i64 y.p.d, .int .i64 y.k] := Blk.new21 hb
    have hW := below_via hW hb (below2 _ _ _)
    clear hb
    obtain ⟨y_0, y_1, y_2, y_3, y_4, y_5⟩ := b_y.cells5
    go_wp2_with fail
    refine (Print_ok _ e2.out (ht.via hW)).mono ?_
    rintro e w5 ⟨rfl, hb⟩
    clear y_0 y_1 y_2 y_3 y_4 y_5
    have b_x := b_x.via hb (Below.refl _ _)
    have b_y := b_y.via hb (Below.refl _ _)
    have hW := below_via hW hb (Below.refl _ _)
    clear hb
    obtain ⟨x_0, x_1, x_2, x_3, x_4, x_5⟩ := b_x.cells5
    obtain ⟨y_0, y_1, y_2, y_3, y_4, y_5⟩ := b_y.cells5
    go_wp2_with fail
    refine (Same_ok _ e3.out).mono ?_
    rintro e w6 ⟨rfl, hb⟩
    clear x_0 x_1 x_2 x_3 x_4 x_5 y_0 y_1 y_2 y_3 y_4 y_5
    have b_x := b_x.via hb (Below.refl _ _)
    clear b_y
    have hW := below_via hW hb (Below.refl _ _)
    clear hb
    obtain ⟨x_0, x_1, x_2, x_3, x_4, x_5⟩ := b_x.cells5
    go_wp2_with fail
    refine (Least_ok _ e4.out).mono ?_
    rintro e w7 ⟨rfl, hb⟩
    clear x_0 x_1 x_2 x_3 x_4 x_5
    clear b_x
    have hW := below_via hW hb (Below.refl _ _)
    clear hb
    go_wp2_with fail
    refine (Parse_ok _ e5.out e6.out (ht.via (hW.alloc hW.size _))).mono ?_
    rintro e w8 ⟨rfl, hb⟩
    have b_l : Blk w8 (w7.heap.size) 23 #[.int .i64 l1.p.a, .int .i64 l1.p.b, .int .i64 l1.p.c, .int .i64 l1.p.d, .int .i64 l1.k] := Blk.newb hb
    have hW := below_via hW hb (below1 _ _)
    clear hb
    obtain ⟨l_0, l_1, l_2, l_3, l_4, l_5⟩ := (b_l.alloc (.cells #[.int .i64 l1.p.a, .int .i64 l1.p.b, .int .i64 l1.p.c, .int .i64 l1.p.d, .int .i64 l1.k] 23)).cells5
    go_wp2_with fail
    refine (HAW _ (ht.via (hW.alloc hW.size _))).mono ?_
    rintro e w9 ⟨rfl, hb⟩
    clear l_0 l_1 l_2 l_3 l_4 l_5
    clear b_l
    have hW := below_via hW hb (below1 _ _)
    clear hb
    go_wp2_with fail
    go_ret
    exact ⟨rfl, hW⟩
  · have hW := Below.refl w.heap.size w
    go_enter Tryd.func9, Tryd.ntmps9
    go_wp2_with fail
    refine (store_calls a n c _ hB ha hc).mono ?_
    rintro e w1 ⟨b, rfl, hbl, hS, hb⟩
    have hW := below_via hW hb (Below.refl _ _)
    clear hb
    go_wp2_with fail
    have hS := hS.below (Below.refl _ _)
    refine (num_calls b b _ 3 3 _ hS (by decide) (by decide) (by decide) (by decide) (by decide)).mono ?_
    rintro e w2 ⟨x, rfl, hx, hS, hg⟩
    have hW := (hW.trans (Below.mono (Below.refl _ _) hW.size)).grown hg (by have := hW.size; (try simp); omega) (by intro k hk; injection hk with hk; omega)
    clear hg
    have hbs := hS.lt
    go_wp2_with fail
    have hS := hS.below (Below.refl _ _)
    refine (num_calls b b _ 3 3 _ hS (by decide) (by decide) (by decide) (by decide) (by decide)).mono ?_
    rintro e w3 ⟨y, rfl, hy, hS, hg⟩
    have hW := (hW.trans (Below.mono (Below.refl _ _) hW.size)).grown hg (by have := hW.size; (try simp); omega) (by intro k hk; injection hk with hk; omega)
    clear hg
    have hbs := hS.lt
    have hbw : w.heap.size ≤ b := hbl
    have hw3 := hW.size
    go_wp2_with fail
    have hS := hS.below (below2 _ (.cells #[.int .i64 x.p.a, .int .i64 x.p.b, .int .i64 x.p.c, .int .i64 x.p.d, .int .i64 x.k] 23) (.cells #[.int .i64 y.p.a, .int .i64 y.p.b, .int .i64 y.p.c, .int .i64 y.p.d, .int .i64 y.k] 23))
    refine (num_calls b b _ 1073741824 60 _ hS (by decide) (by decide) (by decide) (by decide) (by decide)).mono ?_
    rintro e w4 ⟨u, rfl, hu, hS, hg⟩
    have n_x : (w3.heap.size) ≠ b := by omega
    have b_x : Blk w4 (w3.heap.size) 23 #[.int .i64 x.p.a, .int .i64 x.p.b, .int .i64 x.p.c, .int .i64 x.p.d, .int .i64 x.k] := Blk.grown ((Blk.new _ _ _).alloc _) hg n_x
    have n_y : (w3.heap.size + 1) ≠ b := by omega
    have b_y : Blk w4 (w3.heap.size + 1) 23 #[.int .i64 y.p.a, .int .i64 y.p.b, .int .i64 y.p.c, .int .i64 y.p.d, .int .i64 y.k] := Blk.grown (Blk.at_ _ _ _ (World.size_alloc _ _)) hg n_y
    have hW := (hW.trans (Below.mono (below2 _ (.cells #[.int .i64 x.p.a, .int .i64 x.p.b, .int .i64 x.p.c, .int .i64 x.p.d, .int .i64 x.k] 23) (.cells #[.int .i64 y.p.a, .int .i64 y.p.b, .int .i64 y.p.c, .int .i64 y.p.d, .int .i64 y.k] 23)) hW.size)).grown hg (by have := hW.size; (try simp); omega) (by intro k hk; injection hk with hk; omega)
    clear hg
    have hbs := hS.lt
    have q1 : w3.heap.size ≠ w3.heap.size + 1 := by omega
    have q2 : w3.heap.size + 1 ≠ w3.heap.size := by omega
    have b_x1 : Blk (((((w4.setCell ⟨w3.heap.size, 0, none⟩ (.int .i64 u.p.a)).setCell ⟨w3.heap.size, 1, none⟩ (.int .i64 u.p.b)).setCell ⟨w3.heap.size, 2, none⟩ (.int .i64 u.p.c)).setCell ⟨w3.heap.size, 3, none⟩ (.int .i64 u.p.d)).setCell ⟨w3.heap.size, 4, none⟩ (.int .i64 u.k)) (w3.heap.size) 23 #[.int .i64 u.p.a, .int .i64 u.p.b, .int .i64 u.p.c, .int .i64 u.p.d, .int .i64 u.k] := b_x.put5
    have b_y1 : Blk (((((w4.setCell ⟨w3.heap.size, 0, none⟩ (.int .i64 u.p.a)).setCell ⟨w3.heap.size, 1, none⟩ (.int .i64 u.p.b)).setCell ⟨w3.heap.size, 2, none⟩ (.int .i64 u.p.c)).setCell ⟨w3.heap.size, 3, none⟩ (.int .i64 u.p.d)).setCell ⟨w3.heap.size, 4, none⟩ (.int .i64 u.k)) (w3.heap.size + 1) 23 #[.int .i64 y.p.a, .int .i64 y.p.b, .int .i64 y.p.c, .int .i64 y.p.d, .int .i64 y.k] := b_y.far5 q2 _ _ _ _ _
    have hS1 : StoreAt ((((((((((w4.setCell ⟨w3.heap.size, 0, none⟩ (.int .i64 u.p.a)).setCell ⟨w3.heap.size, 1, none⟩ (.int .i64 u.p.b)).setCell ⟨w3.heap.size, 2, none⟩ (.int .i64 u.p.c)).setCell ⟨w3.heap.size, 3, none⟩ (.int .i64 u.p.d)).setCell ⟨w3.heap.size, 4, none⟩ (.int .i64 u.k)).setCell ⟨w3.heap.size + 1, 0, none⟩ (.int .i64 u.p.a)).setCell ⟨w3.heap.size + 1, 1, none⟩ (.int .i64 u.p.b)).setCell ⟨w3.heap.size + 1, 2, none⟩ (.int .i64 u.p.c)).setCell ⟨w3.heap.size + 1, 3, none⟩ (.int .i64 u.p.d)).setCell ⟨w3.heap.size + 1, 4, none⟩ (.int .i64 u.k)) b b (0 + 5 + 5 + 5) := (hS.far5 n_x (by omega) _ _ _ _ _).far5 n_y (by omega) _ _ _ _ _
    have hW1 : Below w.heap.size w ((((((((((w4.setCell ⟨w3.heap.size, 0, none⟩ (.int .i64 u.p.a)).setCell ⟨w3.heap.size, 1, none⟩ (.int .i64 u.p.b)).setCell ⟨w3.heap.size, 2, none⟩ (.int .i64 u.p.c)).setCell ⟨w3.heap.size, 3, none⟩ (.int .i64 u.p.d)).setCell ⟨w3.heap.size, 4, none⟩ (.int .i64 u.k)).setCell ⟨w3.heap.size + 1, 0, none⟩ (.int .i64 u.p.a)).setCell ⟨w3.heap.size + 1, 1, none⟩ (.int .i64 u.p.b)).setCell ⟨w3.heap.size + 1, 2, none⟩ (.int .i64 u.p.c)).setCell ⟨w3.heap.size + 1, 3, none⟩ (.int .i64 u.p.d)).setCell ⟨w3.heap.size + 1, 4, none⟩ (.int .i64 u.k)) := below_put5 (below_put5 hW (by omega) _ _ _ _ _) (by omega) _ _ _ _ _
    have b_x2 : Blk ((((((((((w4.setCell ⟨w3.heap.size, 0, none⟩ (.int .i64 u.p.a)).setCell ⟨w3.heap.size, 1, none⟩ (.int .i64 u.p.b)).setCell ⟨w3.heap.size, 2, none⟩ (.int .i64 u.p.c)).setCell ⟨w3.heap.size, 3, none⟩ (.int .i64 u.p.d)).setCell ⟨w3.heap.size, 4, none⟩ (.int .i64 u.k)).setCell ⟨w3.heap.size + 1, 0, none⟩ (.int .i64 u.p.a)).setCell ⟨w3.heap.size + 1, 1, none⟩ (.int .i64 u.p.b)).setCell ⟨w3.heap.size + 1, 2, none⟩ (.int .i64 u.p.c)).setCell ⟨w3.heap.size + 1, 3, none⟩ (.int .i64 u.p.d)).setCell ⟨w3.heap.size + 1, 4, none⟩ (.int .i64 u.k)) (w3.heap.size) 23 #[.int .i64 u.p.a, .int .i64 u.p.b, .int .i64 u.p.c, .int .i64 u.p.d, .int .i64 u.k] := b_x1.far5 q1 _ _ _ _ _
    have b_y2 : Blk ((((((((((w4.setCell ⟨w3.heap.size, 0, none⟩ (.int .i64 u.p.a)).setCell ⟨w3.heap.size, 1, none⟩ (.int .i64 u.p.b)).setCell ⟨w3.heap.size, 2, none⟩ (.int .i64 u.p.c)).setCell ⟨w3.heap.size, 3, none⟩ (.int .i64 u.p.d)).setCell ⟨w3.heap.size, 4, none⟩ (.int .i64 u.k)).setCell ⟨w3.heap.size + 1, 0, none⟩ (.int .i64 u.p.a)).setCell ⟨w3.heap.size + 1, 1, none⟩ (.int .i64 u.p.b)).setCell ⟨w3.heap.size + 1, 2, none⟩ (.int .i64 u.p.c)).setCell ⟨w3.heap.size + 1, 3, none⟩ (.int .i64 u.p.d)).setCell ⟨w3.heap.size + 1, 4, none⟩ (.int .i64 u.k)) (w3.heap.size + 1) 23 #[.int .i64 u.p.a, .int .i64 u.p.b, .int .i64 u.p.c, .int .i64 u.p.d, .int .i64 u.k] := b_y1.put5
    obtain ⟨x_0, x_1, x_2, x_3, x_4, x_5⟩ := b_x.cells5
    obtain ⟨c_0, c_1, c_2, c_3, c_4, c_5⟩ := b_x1.cells5
    obtain ⟨y_0, y_1, y_2, y_3, y_4, y_5⟩ := b_y1.cells5
    go_wp2_with fail
    refine (seldom_calls b b _ 2 _ hS1 (by decide) (by decide) (by decide)).mono ?_
    rintro e w5 ⟨v, rfl, hS, hg⟩
    have b_x := b_x2.grown hg n_x
    have b_y := b_y2.grown hg n_y
    have hW := hW1.grown hg (by have := hW1.size; omega) (by intro k hk; injection hk with hk; omega)
    clear hg hS hS1 hW1 b_x1 b_x2 b_y1 b_y2 x_0 x_1 x_2 x_3 x_4 x_5 y_0 y_1 y_2 y_3 y_4 y_5 c_0 c_1 c_2 c_3 c_4 c_5
    have hX := hu.chk (by decide) (by decide)
    have uk0 := hu.k0
    have uk1 : u.k ≤ 60 := hu.k1
    cases v
    · have hY := hX
      obtain ⟨s1, t1, z1, l1, e1, e2, e3, e4, e5, e6, e7⟩ := told_plain (x := u) (y := u) hX hY
      have e1 := Lib.hid e1
      have e2 := Lib.hid e2
      have e3 := Lib.hid e3
      have e4 := Lib.hid e4
      have e5 := Lib.hid e5
      have e6 := Lib.hid e6
      have q := told_eq e7
      clear e7 hX hY
      obtain ⟨x_0, x_1, x_2, x_3, x_4, x_5⟩ := b_x.cells5
      obtain ⟨y_0, y_1, y_2, y_3, y_4, y_5⟩ := b_y.cells5
      go_wp2_with fail
      refine (Print_ok _ e1.out (ht.via hW)).mono ?_
      rintro e w6 ⟨rfl, hb⟩
      clear x_0 x_1 x_2 x_3 x_4 x_5 y_0 y_1 y_2 y_3 y_4 y_5
      have b_x := b_x.via hb (Below.refl _ _)
      have b_y := b_y.via hb (Below.refl _ _)
      have hW := below_via hW hb (Below.refl _ _)
      clear hb
      obtain ⟨y_0, y_1, y_2, y_3, y_4, y_5⟩ := b_y.cells5
      go_wp2_with fail
      refine (Print_ok _ e2.out (ht.via hW)).mono ?_
      rintro e w7 ⟨rfl, hb⟩
      clear y_0 y_1 y_2 y_3 y_4 y_5
      have b_x := b_x.via hb (Below.refl _ _)
      have b_y := b_y.via hb (Below.refl _ _)
      have hW := below_via hW hb (Below.refl _ _)
      clear hb
      obtain ⟨x_0, x_1, x_2, x_3, x_4, x_5⟩ := b_x.cells5
      obtain ⟨y_0, y_1, y_2, y_3, y_4, y_5⟩ := b_y.cells5
      go_wp2_with fail
      refine (Same_ok _ e3.out).mono ?_
      rintro e w8 ⟨rfl, hb⟩
      clear x_0 x_1 x_2 x_3 x_4 x_5 y_0 y_1 y_2 y_3 y_4 y_5
      have b_x := b_x.via hb (Below.refl _ _)
      clear b_y
      have hW := below_via hW hb (Below.refl _ _)
      clear hb
      obtain ⟨x_0, x_1, x_2, x_3, x_4, x_5⟩ := b_x.cells5
      go_wp2_with fail
      refine (Least_ok _ e4.out).mono ?_
      rintro e w9 ⟨rfl, hb⟩
      clear x_0 x_1 x_2 x_3 x_4 x_5
      clear b_x
      have hW := below_via hW hb (Below.refl _ _)
      clear hb
      go_wp2_with fail
      refine (Parse_ok _ e5.out e6.out (ht.via (hW.alloc hW.size _))).mono ?_
      rintro e w10 ⟨rfl, hb⟩
      have b_l : Blk w10 (w9.heap.size) 23 #[.int .i64 l1.p.a, .int .i64 l1.p.b, .int .i64 l1.p.c, .int .i64 l1.p.d, .int .i64 l1.k] := Blk.newb hb
      have hW := below_via hW hb (below1 _ _)
      clear hb
      obtain ⟨l_0, l_1, l_2, l_3, l_4, l_5⟩ := (b_l.alloc (.cells #[.int .i64 l1.p.a, .int .i64 l1.p.b, .int .i64 l1.p.c, .int .i64 l1.p.d, .int .i64 l1.k] 23)).cells5
      go_wp2_with fail
      refine (HAW _ (ht.via (hW.alloc hW.size _))).mono ?_
      rintro e w11 ⟨rfl, hb⟩
      clear l_0 l_1 l_2 l_3 l_4 l_5
      clear b_l
      have hW := below_via hW hb (below1 _ _)
      clear hb
      go_wp2_with fail
      go_ret
      exact ⟨rfl, hW⟩
    · have hY : Nm.chk ⟨u.p, min (u.k + 1) 60⟩ = 0 := Nm.ok_chk (Nm.chk_ok hX).1 (by show 0 ≤ min (u.k + 1) 60; omega) (by show min (u.k + 1) 60 ≤ 60; omega)
      obtain ⟨s1, t1, z1, l1, e1, e2, e3, e4, e5, e6, e7⟩ := told_plain (x := u) (y := ⟨u.p, min (u.k + 1) 60⟩) hX hY
      have e1 := Lib.hid e1
      have e2 := Lib.hid e2
      have e3 := Lib.hid e3
      have e4 := Lib.hid e4
      have e5 := Lib.hid e5
      have e6 := Lib.hid e6
      have q := told_eq e7
      clear e7 hX hY
      have hW1 : Below w.heap.size w (w5.setCell ⟨w3.heap.size + 1, 4, none⟩ (.int .i64 (min (u.k + 1) 60))) := hW.setCell (by show w.heap.size ≤ w3.heap.size + 1; omega) _
      have b_x1 : Blk (w5.setCell ⟨w3.heap.size + 1, 4, none⟩ (.int .i64 (min (u.k + 1) 60))) (w3.heap.size) 23 #[.int .i64 u.p.a, .int .i64 u.p.b, .int .i64 u.p.c, .int .i64 u.p.d, .int .i64 u.k] := b_x.far (by exact q1) _
      have b_y1 : Blk (w5.setCell ⟨w3.heap.size + 1, 4, none⟩ (.int .i64 (min (u.k + 1) 60))) (w3.heap.size + 1) 23 #[.int .i64 u.p.a, .int .i64 u.p.b, .int .i64 u.p.c, .int .i64 u.p.d, .int .i64 (min (u.k + 1) 60)] := b_y.set_ 4 _
      obtain ⟨x_0, x_1, x_2, x_3, x_4, x_5⟩ := b_x1.cells5
      obtain ⟨y_0, y_1, y_2, y_3, y_4, y_5⟩ := b_y.cells5
      go_wp2_with fail
      refine (Print_ok _ e1.out (ht.via hW1)).mono ?_
      rintro e w6 ⟨rfl, hb⟩
      have b_x := b_x1.via hb (Below.refl _ _)
      have b_y := b_y1.via hb (Below.refl _ _)
      have hW := below_via hW1 hb (Below.refl _ _)
      clear hb hW1 b_x1 b_y1 x_0 x_1 x_2 x_3 x_4 x_5 y_0 y_1 y_2 y_3 y_4 y_5
      obtain ⟨y_0, y_1, y_2, y_3, y_4, y_5⟩ := b_y.cells5
      go_wp2_with fail
      refine (Print_ok _ e2.out (ht.via hW)).mono ?_
      rintro e w7 ⟨rfl, hb⟩
      clear y_0 y_1 y_2 y_3 y_4 y_5
      have b_x := b_x.via hb (Below.refl _ _)
      have b_y := b_y.via hb (Below.refl _ _)
      have hW := below_via hW hb (Below.refl _ _)
      clear hb
      obtain ⟨x_0, x_1, x_2, x_3, x_4, x_5⟩ := b_x.cells5
      obtain ⟨y_0, y_1, y_2, y_3, y_4, y_5⟩ := b_y.cells5
      go_wp2_with fail
      refine (Same_ok _ e3.out).mono ?_
      rintro e w8 ⟨rfl, hb⟩
      clear x_0 x_1 x_2 x_3 x_4 x_5 y_0 y_1 y_2 y_3 y_4 y_5
      have b_x := b_x.via hb (Below.refl _ _)
      clear b_y
      have hW := below_via hW hb (Below.refl _ _)
      clear hb
      obtain ⟨x_0, x_1, x_2, x_3, x_4, x_5⟩ := b_x.cells5
      go_wp2_with fail
      refine (Least_ok _ e4.out).mono ?_
      rintro e w9 ⟨rfl, hb⟩
      clear x_0 x_1 x_2 x_3 x_4 x_5
      clear b_x
      have hW := below_via hW hb (Below.refl _ _)
      clear hb
      go_wp2_with fail
      refine (Parse_ok _ e5.out e6.out (ht.via (hW.alloc hW.size _))).mono ?_
      rintro e w10 ⟨rfl, hb⟩
      have b_l : Blk w10 (w9.heap.size) 23 #[.int .i64 l1.p.a, .int .i64 l1.p.b, .int .i64 l1.p.c, .int .i64 l1.p.d, .int .i64 l1.k] := Blk.newb hb
      have hW := below_via hW hb (below1 _ _)
      clear hb
      obtain ⟨l_0, l_1, l_2, l_3, l_4, l_5⟩ := (b_l.alloc (.cells #[.int .i64 l1.p.a, .int .i64 l1.p.b, .int .i64 l1.p.c, .int .i64 l1.p.d, .int .i64 l1.k] 23)).cells5
      go_wp2_with fail
      refine (HAW _ (ht.via (hW.alloc hW.size _))).mono ?_
      rintro e w11 ⟨rfl, hb⟩
      clear l_0 l_1 l_2 l_3 l_4 l_5
      clear b_l
      have hW := below_via hW hb (below1 _ _)
      clear hb
      go_wp2_with fail
      go_ret
      exact ⟨rfl, hW⟩
end Go.Proofs.YtlglmooknlmomaaDoor
end
