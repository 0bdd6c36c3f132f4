import Derived.Test.YtlglmooknlmomaaDoorC18
import Derived.Test.YtlglmooknlmomaaDoorCField0
set_option linter.all false
section
namespace Go.Proofs.YtlglmooknlmomaaDoor
open Go.RowKit
attribute [local go_sem] Oper.semAt_some
attribute [local go_sem high] eqNum
set_option maxRecDepth 100000 in
set_option maxHeartbeats 8000000 in
theorem RingField_walk (HAW : ∀ w : World, Tabs w → Calls Tryd.prog 15 #[] w fun e w' => e = .returned (.bool true) ∧ Below w.heap.size w w') (a : Option Addr) (n c : Nat) (w : World) (ht : Tabs w) (hB : BytesAt w a n) (ha : a = none → n = 0) (hc : n ≤ c) :
    Calls Tryd.prog 12 #[.slice a n c] w fun e w' => e = .returned (.bool true) ∧ Below w.heap.size w w' := by
  have hW := Below.refl w.heap.size w
  go_enter Tryd.func12, Tryd.ntmps12
  go_wp2_with fail
  refine (store_calls a n c _ hB ha hc).mono ?_
  rintro e w1 ⟨b, rfl, hbl, hS, hb⟩
  have hW := below_via hW hb (Below.refl _ _)
  clear hb
  go_wp2_with fail
  have hS := hS.below (Below.refl _ _)
  refine (num_calls b b _ 60 8 _ hS (by decide) (by decide) (by decide) (by decide) (by decide)).mono ?_
  rintro e w2 ⟨x, rfl, hx, hS, hg⟩
  have hW := (hW.trans (Below.mono (Below.refl _ _) hW.size)).grown hg (by have := hW.size; (try simp); omega) (by intro k hk; injection hk with hk; omega)
  clear hg
  have hbs := hS.lt
  go_wp2_with fail
  have hS := hS.below (Below.refl _ _)
  refine (num_calls b b _ 60 8 _ hS (by decide) (by decide) (by decide) (by decide) (by decide)).mono ?_
  rintro e w3 ⟨y, rfl, hy, hS, hg⟩
  have hW := (hW.trans (Below.mono (Below.refl _ _) hW.size)).grown hg (by have := hW.size; (try simp); omega) (by intro k hk; injection hk with hk; omega)
  clear hg
  have hbs := hS.lt
  go_wp2_with fail
  have hS := hS.below (Below.refl _ _)
  refine (num_calls b b _ 9 3 _ hS (by decide) (by decide) (by decide) (by decide) (by decide)).mono ?_
  rintro e w4 ⟨z, rfl, hz, hS, hg⟩
  have hW := (hW.trans (Below.mono (Below.refl _ _) hW.size)).grown hg (by have := hW.size; (try simp); omega) (by intro k hk; injection hk with hk; omega)
  clear hg
  have hbs := hS.lt
  obtain ⟨a1, c1, i1, j1, l1, m1, r1, q1, v1, e1, e2, e3, e4, e5, e6, e7, e8, e9, e10, e11, e12, e13, e14, e15, e16⟩ := field_plain hx hy hz
  have e1 := Lib.hid e1
  have e2 := Lib.hid e2
  have e3 := Lib.hid e3
  have e4 := Lib.hid e4
  have e5 := Lib.hid e5
  have e6 := Lib.hid e6
  have e7 := Lib.hid e7
  have e8 := Lib.hid e8
  have e9 := Lib.hid e9
  have e10 := Lib.hid e10
  have e11 := Lib.hid e11
  have e12 := Lib.hid e12
  have e13 := Lib.hid e13
  have e14 := Lib.hid e14
  have e15 := Lib.hid e15
  have e16 := Lib.hid e16
  go_wp2_with fail
  refine (Add_ok _ e1.out).mono ?_
  rintro e w5 ⟨rfl, hb⟩
  have b_x : Blk w5 (w4.heap.size) 23 #[.int .i64 x.p.a, .int .i64 x.p.b, .int .i64 x.p.c, .int .i64 x.p.d, .int .i64 x.k] := Blk.new30 hb
  have b_y : Blk w5 (w4.heap.size + 1) 23 #[.int .i64 y.p.a, .int .i64 y.p.b, .int .i64 y.p.c, .int .i64 y.p.d, .int .i64 y.k] := Blk.new31 hb
  have b_z : Blk w5 (w4.heap.size + 1 + 1) 23 #[.int .i64 z.p.a, .int .i64 z.p.b, .int .i64 z.p.c, .int .i64 z.p.d, .int .i64 z.k] := Blk.new32 hb
  have hW := below_via hW hb (below3 _ _ _ _)
  have hS := StoreAt.via hS hb (below3 _ _ _ _)
  clear hb
  obtain ⟨x_0, x_1, x_2, x_3, x_4, x_5⟩ := (b_x.alloc (.cells #[.int .i64 a1.p.a, .int .i64 a1.p.b, .int .i64 a1.p.c, .int .i64 a1.p.d, .int .i64 a1.k] 23)).cells5
  obtain ⟨y_0, y_1, y_2, y_3, y_4, y_5⟩ := (b_y.alloc (.cells #[.int .i64 a1.p.a, .int .i64 a1.p.b, .int .i64 a1.p.c, .int .i64 a1.p.d, .int .i64 a1.k] 23)).cells5
  go_wp2_with fail
  refine (Add_ok _ e2.out).mono ?_
  rintro e w6 ⟨rfl, hb⟩
  clear x_0 x_1 x_2 x_3 x_4 x_5 y_0 y_1 y_2 y_3 y_4 y_5
  have b_x := b_x.via hb (below1 _ _)
  have b_y := b_y.via hb (below1 _ _)
  have b_z := b_z.via hb (below1 _ _)
  have b_a : Blk w6 (w5.heap.size) 23 #[.int .i64 a1.p.a, .int .i64 a1.p.b, .int .i64 a1.p.c, .int .i64 a1.p.d, .int .i64 a1.k] := Blk.newb hb
  have hW := below_via hW hb (below1 _ _)
  have hS := StoreAt.via hS hb (below1 _ _)
  clear hb
  obtain ⟨x_0, x_1, x_2, x_3, x_4, x_5⟩ := (b_x.alloc (.cells #[.int .i64 a1.p.a, .int .i64 a1.p.b, .int .i64 a1.p.c, .int .i64 a1.p.d, .int .i64 a1.k] 23)).cells5
  obtain ⟨y_0, y_1, y_2, y_3, y_4, y_5⟩ := (b_y.alloc (.cells #[.int .i64 a1.p.a, .int .i64 a1.p.b, .int .i64 a1.p.c, .int .i64 a1.p.d, .int .i64 a1.k] 23)).cells5
  go_wp2_with fail
  refine (Mul_ok _ e3.out).mono ?_
  rintro e w7 ⟨rfl, hb⟩
  clear x_0 x_1 x_2 x_3 x_4 x_5 y_0 y_1 y_2 y_3 y_4 y_5
  have b_x := b_x.via hb (below1 _ _)
  have b_y := b_y.via hb (below1 _ _)
  have b_z := b_z.via hb (below1 _ _)
  have b_a := b_a.via hb (below1 _ _)
  have b_b : Blk w7 (w6.heap.size) 23 #[.int .i64 a1.p.a, .int .i64 a1.p.b, .int .i64 a1.p.c, .int .i64 a1.p.d, .int .i64 a1.k] := Blk.newb hb
  have hW := below_via hW hb (below1 _ _)
  have hS := StoreAt.via hS hb (below1 _ _)
  clear hb
  obtain ⟨x_0, x_1, x_2, x_3, x_4, x_5⟩ := (b_x.alloc (.cells #[.int .i64 c1.p.a, .int .i64 c1.p.b, .int .i64 c1.p.c, .int .i64 c1.p.d, .int .i64 c1.k] 23)).cells5
  obtain ⟨y_0, y_1, y_2, y_3, y_4, y_5⟩ := (b_y.alloc (.cells #[.int .i64 c1.p.a, .int .i64 c1.p.b, .int .i64 c1.p.c, .int .i64 c1.p.d, .int .i64 c1.k] 23)).cells5
  go_wp2_with fail
  refine (Mul_ok _ e4.out).mono ?_
  rintro e w8 ⟨rfl, hb⟩
  clear x_0 x_1 x_2 x_3 x_4 x_5 y_0 y_1 y_2 y_3 y_4 y_5
  have b_x := b_x.via hb (below1 _ _)
  have b_y := b_y.via hb (below1 _ _)
  have b_z := b_z.via hb (below1 _ _)
  have b_a := b_a.via hb (below1 _ _)
  have b_b := b_b.via hb (below1 _ _)
  have b_c : Blk w8 (w7.heap.size) 23 #[.int .i64 c1.p.a, .int .i64 c1.p.b, .int .i64 c1.p.c, .int .i64 c1.p.d, .int .i64 c1.k] := Blk.newb hb
  have hW := below_via hW hb (below1 _ _)
  have hS := StoreAt.via hS hb (below1 _ _)
  clear hb
  obtain ⟨a_0, a_1, a_2, a_3, a_4, a_5⟩ := (b_a.alloc (.cells #[.int .i64 c1.p.a, .int .i64 c1.p.b, .int .i64 c1.p.c, .int .i64 c1.p.d, .int .i64 c1.k] 23)).cells5
  obtain ⟨b_0, b_1, b_2, b_3, b_4, b_5⟩ := (b_b.alloc (.cells #[.int .i64 c1.p.a, .int .i64 c1.p.b, .int .i64 c1.p.c, .int .i64 c1.p.d, .int .i64 c1.k] 23)).cells5
  obtain ⟨c_0, c_1, c_2, c_3, c_4, c_5⟩ := (b_c.alloc (.cells #[.int .i64 c1.p.a, .int .i64 c1.p.b, .int .i64 c1.p.c, .int .i64 c1.p.d, .int .i64 c1.k] 23)).cells5
  obtain ⟨z_0, z_1, z_2, z_3, z_4, z_5⟩ := (b_z.alloc (.cells #[.int .i64 c1.p.a, .int .i64 c1.p.b, .int .i64 c1.p.c, .int .i64 c1.p.d, .int .i64 c1.k] 23)).cells5
  go_wp2_with fail
  refine (Add_ok _ e5.out).mono ?_
  rintro e w9 ⟨rfl, hb⟩
  clear a_0 a_1 a_2 a_3 a_4 a_5 b_0 b_1 b_2 b_3 b_4 b_5 c_0 c_1 c_2 c_3 c_4 c_5 z_0 z_1 z_2 z_3 z_4 z_5
  have b_x := b_x.via hb (below1 _ _)
  have b_y := b_y.via hb (below1 _ _)
  have b_z := b_z.via hb (below1 _ _)
  have b_a := b_a.via hb (below1 _ _)
  have b_b := b_b.via hb (below1 _ _)
  have b_c := b_c.via hb (below1 _ _)
  have b_d : Blk w9 (w8.heap.size) 23 #[.int .i64 c1.p.a, .int .i64 c1.p.b, .int .i64 c1.p.c, .int .i64 c1.p.d, .int .i64 c1.k] := Blk.newb hb
  have hW := below_via hW hb (below1 _ _)
  have hS := StoreAt.via hS hb (below1 _ _)
  clear hb
  obtain ⟨y_0, y_1, y_2, y_3, y_4, y_5⟩ := (b_y.alloc (.cells #[.int .i64 i1.p.a, .int .i64 i1.p.b, .int .i64 i1.p.c, .int .i64 i1.p.d, .int .i64 i1.k] 23)).cells5
  obtain ⟨z_0, z_1, z_2, z_3, z_4, z_5⟩ := (b_z.alloc (.cells #[.int .i64 i1.p.a, .int .i64 i1.p.b, .int .i64 i1.p.c, .int .i64 i1.p.d, .int .i64 i1.k] 23)).cells5
  go_wp2_with fail
  refine (Add_ok _ e6.out).mono ?_
  rintro e w10 ⟨rfl, hb⟩
  clear y_0 y_1 y_2 y_3 y_4 y_5 z_0 z_1 z_2 z_3 z_4 z_5
  have b_x := b_x.via hb (below1 _ _)
  have b_y := b_y.via hb (below1 _ _)
  have b_z := b_z.via hb (below1 _ _)
  have b_a := b_a.via hb (below1 _ _)
  have b_b := b_b.via hb (below1 _ _)
  have b_c := b_c.via hb (below1 _ _)
  clear b_d
  have b_i : Blk w10 (w9.heap.size) 23 #[.int .i64 i1.p.a, .int .i64 i1.p.b, .int .i64 i1.p.c, .int .i64 i1.p.d, .int .i64 i1.k] := Blk.newb hb
  have hW := below_via hW hb (below1 _ _)
  have hS := StoreAt.via hS hb (below1 _ _)
  clear hb
  obtain ⟨x_0, x_1, x_2, x_3, x_4, x_5⟩ := (b_x.alloc (.cells #[.int .i64 j1.p.a, .int .i64 j1.p.b, .int .i64 j1.p.c, .int .i64 j1.p.d, .int .i64 j1.k] 23)).cells5
  go_wp2_with fail
  refine (Add_ok _ e7.out).mono ?_
  rintro e w11 ⟨rfl, hb⟩
  clear x_0 x_1 x_2 x_3 x_4 x_5
  have b_x := b_x.via hb (below1 _ _)
  have b_y := b_y.via hb (below1 _ _)
  have b_z := b_z.via hb (below1 _ _)
  have b_a := b_a.via hb (below1 _ _)
  clear b_b
  have b_c := b_c.via hb (below1 _ _)
  have b_i := b_i.via hb (below1 _ _)
  have b_j : Blk w11 (w10.heap.size) 23 #[.int .i64 j1.p.a, .int .i64 j1.p.b, .int .i64 j1.p.c, .int .i64 j1.p.d, .int .i64 j1.k] := Blk.newb hb
  have hW := below_via hW hb (below1 _ _)
  have hS := StoreAt.via hS hb (below1 _ _)
  clear hb
  obtain ⟨c_0, c_1, c_2, c_3, c_4, c_5⟩ := (b_c.alloc (.cells #[.int .i64 i1.p.a, .int .i64 i1.p.b, .int .i64 i1.p.c, .int .i64 i1.p.d, .int .i64 i1.k] 23)).cells5
  obtain ⟨z_0, z_1, z_2, z_3, z_4, z_5⟩ := (b_z.alloc (.cells #[.int .i64 i1.p.a, .int .i64 i1.p.b, .int .i64 i1.p.c, .int .i64 i1.p.d, .int .i64 i1.k] 23)).cells5
  go_wp2_with fail
  refine (Mul_ok _ e8.out).mono ?_
  rintro e w12 ⟨rfl, hb⟩
  clear c_0 c_1 c_2 c_3 c_4 c_5 z_0 z_1 z_2 z_3 z_4 z_5
  have b_x := b_x.via hb (below1 _ _)
  have b_y := b_y.via hb (below1 _ _)
  have b_z := b_z.via hb (below1 _ _)
  have b_a := b_a.via hb (below1 _ _)
  have b_c := b_c.via hb (below1 _ _)
  have b_i := b_i.via hb (below1 _ _)
  clear b_j
  have b_k : Blk w12 (w11.heap.size) 23 #[.int .i64 i1.p.a, .int .i64 i1.p.b, .int .i64 i1.p.c, .int .i64 i1.p.d, .int .i64 i1.k] := Blk.newb hb
  have hW := below_via hW hb (below1 _ _)
  have hS := StoreAt.via hS hb (below1 _ _)
  clear hb
  obtain ⟨y_0, y_1, y_2, y_3, y_4, y_5⟩ := (b_y.alloc (.cells #[.int .i64 l1.p.a, .int .i64 l1.p.b, .int .i64 l1.p.c, .int .i64 l1.p.d, .int .i64 l1.k] 23)).cells5
  obtain ⟨z_0, z_1, z_2, z_3, z_4, z_5⟩ := (b_z.alloc (.cells #[.int .i64 l1.p.a, .int .i64 l1.p.b, .int .i64 l1.p.c, .int .i64 l1.p.d, .int .i64 l1.k] 23)).cells5
  go_wp2_with fail
  refine (Mul_ok _ e9.out).mono ?_
  rintro e w13 ⟨rfl, hb⟩
  clear y_0 y_1 y_2 y_3 y_4 y_5 z_0 z_1 z_2 z_3 z_4 z_5
  have b_x := b_x.via hb (below1 _ _)
  have b_y := b_y.via hb (below1 _ _)
  have b_z := b_z.via hb (below1 _ _)
  have b_a := b_a.via hb (below1 _ _)
  clear b_c
  have b_i := b_i.via hb (below1 _ _)
  have b_k := b_k.via hb (below1 _ _)
  have b_l : Blk w13 (w12.heap.size) 23 #[.int .i64 l1.p.a, .int .i64 l1.p.b, .int .i64 l1.p.c, .int .i64 l1.p.d, .int .i64 l1.k] := Blk.newb hb
  have hW := below_via hW hb (below1 _ _)
  have hS := StoreAt.via hS hb (below1 _ _)
  clear hb
  obtain ⟨x_0, x_1, x_2, x_3, x_4, x_5⟩ := (b_x.alloc (.cells #[.int .i64 m1.p.a, .int .i64 m1.p.b, .int .i64 m1.p.c, .int .i64 m1.p.d, .int .i64 m1.k] 23)).cells5
  go_wp2_with fail
  refine (Mul_ok _ e10.out).mono ?_
  rintro e w14 ⟨rfl, hb⟩
  clear x_0 x_1 x_2 x_3 x_4 x_5
  have b_x := b_x.via hb (below1 _ _)
  have b_y := b_y.via hb (below1 _ _)
  have b_z := b_z.via hb (below1 _ _)
  have b_a := b_a.via hb (below1 _ _)
  have b_i := b_i.via hb (below1 _ _)
  have b_k := b_k.via hb (below1 _ _)
  have b_l := b_l.via hb (below1 _ _)
  have b_m : Blk w14 (w13.heap.size) 23 #[.int .i64 m1.p.a, .int .i64 m1.p.b, .int .i64 m1.p.c, .int .i64 m1.p.d, .int .i64 m1.k] := Blk.newb hb
  have hW := below_via hW hb (below1 _ _)
  have hS := StoreAt.via hS hb (below1 _ _)
  clear hb
  obtain ⟨i_0, i_1, i_2, i_3, i_4, i_5⟩ := (b_i.alloc (.cells #[.int .i64 l1.p.a, .int .i64 l1.p.b, .int .i64 l1.p.c, .int .i64 l1.p.d, .int .i64 l1.k] 23)).cells5
  obtain ⟨k_0, k_1, k_2, k_3, k_4, k_5⟩ := (b_k.alloc (.cells #[.int .i64 l1.p.a, .int .i64 l1.p.b, .int .i64 l1.p.c, .int .i64 l1.p.d, .int .i64 l1.k] 23)).cells5
  obtain ⟨l_0, l_1, l_2, l_3, l_4, l_5⟩ := (b_l.alloc (.cells #[.int .i64 l1.p.a, .int .i64 l1.p.b, .int .i64 l1.p.c, .int .i64 l1.p.d, .int .i64 l1.k] 23)).cells5
  obtain ⟨a_0, a_1, a_2, a_3, a_4, a_5⟩ := (b_a.alloc (.cells #[.int .i64 l1.p.a, .int .i64 l1.p.b, .int .i64 l1.p.c, .int .i64 l1.p.d, .int .i64 l1.k] 23)).cells5
  obtain ⟨z_0, z_1, z_2, z_3, z_4, z_5⟩ := (b_z.alloc (.cells #[.int .i64 l1.p.a, .int .i64 l1.p.b, .int .i64 l1.p.c, .int .i64 l1.p.d, .int .i64 l1.k] 23)).cells5
  go_wp2_with fail
  refine (Mul_ok _ e11.out).mono ?_
  rintro e w15 ⟨rfl, hb⟩
  clear i_0 i_1 i_2 i_3 i_4 i_5 k_0 k_1 k_2 k_3 k_4 k_5 l_0 l_1 l_2 l_3 l_4 l_5 a_0 a_1 a_2 a_3 a_4 a_5 z_0 z_1 z_2 z_3 z_4 z_5
  have b_x := b_x.via hb (below1 _ _)
  have b_y := b_y.via hb (below1 _ _)
  have b_z := b_z.via hb (below1 _ _)
  have b_a := b_a.via hb (below1 _ _)
  clear b_i
  clear b_k
  clear b_l
  have b_m := b_m.via hb (below1 _ _)
  have hW := below_via hW hb (below1 _ _)
  have hS := StoreAt.via hS hb (below1 _ _)
  clear hb
  obtain ⟨x_0, x_1, x_2, x_3, x_4, x_5⟩ := (b_x.alloc (.cells #[.int .i64 q1.p.a, .int .i64 q1.p.b, .int .i64 q1.p.c, .int .i64 q1.p.d, .int .i64 q1.k] 23)).cells5
  obtain ⟨z_0, z_1, z_2, z_3, z_4, z_5⟩ := (b_z.alloc (.cells #[.int .i64 q1.p.a, .int .i64 q1.p.b, .int .i64 q1.p.c, .int .i64 q1.p.d, .int .i64 q1.k] 23)).cells5
  go_wp2_with fail
  refine (Mul_ok _ e12.out).mono ?_
  rintro e w16 ⟨rfl, hb⟩
  clear x_0 x_1 x_2 x_3 x_4 x_5 z_0 z_1 z_2 z_3 z_4 z_5
  have b_x := b_x.via hb (below1 _ _)
  have b_y := b_y.via hb (below1 _ _)
  clear b_z
  have b_a := b_a.via hb (below1 _ _)
  have b_m := b_m.via hb (below1 _ _)
  have b_q : Blk w16 (w15.heap.size) 23 #[.int .i64 q1.p.a, .int .i64 q1.p.b, .int .i64 q1.p.c, .int .i64 q1.p.d, .int .i64 q1.k] := Blk.newb hb
  have hW := below_via hW hb (below1 _ _)
  have hS := StoreAt.via hS hb (below1 _ _)
  clear hb
  obtain ⟨m_0, m_1, m_2, m_3, m_4, m_5⟩ := (b_m.alloc (.cells #[.int .i64 r1.p.a, .int .i64 r1.p.b, .int .i64 r1.p.c, .int .i64 r1.p.d, .int .i64 r1.k] 23)).cells5
  go_wp2_with fail
  refine (Add_ok _ e13.out).mono ?_
  rintro e w17 ⟨rfl, hb⟩
  clear m_0 m_1 m_2 m_3 m_4 m_5
  have b_x := b_x.via hb (below1 _ _)
  have b_y := b_y.via hb (below1 _ _)
  have b_a := b_a.via hb (below1 _ _)
  have b_m := b_m.via hb (below1 _ _)
  have b_q := b_q.via hb (below1 _ _)
  have b_r : Blk w17 (w16.heap.size) 23 #[.int .i64 r1.p.a, .int .i64 r1.p.b, .int .i64 r1.p.c, .int .i64 r1.p.d, .int .i64 r1.k] := Blk.newb hb
  have hW := below_via hW hb (below1 _ _)
  have hS := StoreAt.via hS hb (below1 _ _)
  clear hb
  obtain ⟨r_0, r_1, r_2, r_3, r_4, r_5⟩ := (b_r.alloc (.cells #[.int .i64 q1.p.a, .int .i64 q1.p.b, .int .i64 q1.p.c, .int .i64 q1.p.d, .int .i64 q1.k] 23)).cells5
  obtain ⟨m_0, m_1, m_2, m_3, m_4, m_5⟩ := (b_m.alloc (.cells #[.int .i64 q1.p.a, .int .i64 q1.p.b, .int .i64 q1.p.c, .int .i64 q1.p.d, .int .i64 q1.k] 23)).cells5
  go_wp2_with fail
  refine (Sum2_ok _ e14.out (w17.heap.size + 1) (Blk.at_ (w17.alloc _) _ _ (World.size_alloc _ _))).mono ?_
  rintro e w18 ⟨rfl, hb⟩
  clear r_0 r_1 r_2 r_3 r_4 r_5 m_0 m_1 m_2 m_3 m_4 m_5
  have b_x := b_x.via hb (below2 _ _ _)
  have b_y := b_y.via hb (below2 _ _ _)
  have b_a := b_a.via hb (below2 _ _ _)
  have b_q := b_q.via hb (below2 _ _ _)
  clear b_m b_r
  have b_t : Blk w18 (w17.heap.size) 23 #[.int .i64 q1.p.a, .int .i64 q1.p.b, .int .i64 q1.p.c, .int .i64 q1.p.d, .int .i64 q1.k] := Blk.new20 hb
  have hW := below_via hW hb (below2 _ _ _)
  have hS := StoreAt.via hS hb (below2 _ _ _)
  clear hb
  obtain ⟨a_0, a_1, a_2, a_3, a_4, a_5⟩ := (b_a.alloc (.cells #[.int .i64 q1.p.a, .int .i64 q1.p.b, .int .i64 q1.p.c, .int .i64 q1.p.d, .int .i64 q1.k] 23)).cells5
  obtain ⟨y_0, y_1, y_2, y_3, y_4, y_5⟩ := (b_y.alloc (.cells #[.int .i64 q1.p.a, .int .i64 q1.p.b, .int .i64 q1.p.c, .int .i64 q1.p.d, .int .i64 q1.k] 23)).cells5
  go_wp2_with fail
  refine (Sub_ok _ e15.out).mono ?_
  rintro e w19 ⟨rfl, hb⟩
  clear a_0 a_1 a_2 a_3 a_4 a_5 y_0 y_1 y_2 y_3 y_4 y_5
  have b_x := b_x.via hb (below1 _ _)
  clear b_y
  clear b_a
  have b_q := b_q.via hb (below1 _ _)
  have b_t := b_t.via hb (below1 _ _)
  have b_u : Blk w19 (w18.heap.size) 23 #[.int .i64 q1.p.a, .int .i64 q1.p.b, .int .i64 q1.p.c, .int .i64 q1.p.d, .int .i64 q1.k] := Blk.newb hb
  have hW := below_via hW hb (below1 _ _)
  have hS := StoreAt.via hS hb (below1 _ _)
  clear hb
  obtain ⟨x_0, x_1, x_2, x_3, x_4, x_5⟩ := (b_x.alloc (.cells #[.int .i64 v1.p.a, .int .i64 v1.p.b, .int .i64 v1.p.c, .int .i64 v1.p.d, .int .i64 v1.k] 23)).cells5
  go_wp2_with fail
  refine (Least_ok _ e16.out).mono ?_
  rintro e w20 ⟨rfl, hb⟩
  clear x_0 x_1 x_2 x_3 x_4 x_5
  clear b_x
  have b_q := b_q.via hb (below1 _ _)
  have b_t := b_t.via hb (below1 _ _)
  have b_u := b_u.via hb (below1 _ _)
  have b_v : Blk w20 (w19.heap.size) 23 #[.int .i64 v1.p.a, .int .i64 v1.p.b, .int .i64 v1.p.c, .int .i64 v1.p.d, .int .i64 v1.k] := Blk.newb hb
  have hW := below_via hW hb (below1 _ _)
  have hS := StoreAt.via hS hb (below1 _ _)
  clear hb
  obtain ⟨q_0, q_1, q_2, q_3, q_4, q_5⟩ := (b_q.alloc (.cells #[.int .i64 v1.p.a, .int .i64 v1.p.b, .int .i64 v1.p.c, .int .i64 v1.p.d, .int .i64 v1.k] 23)).cells5
  obtain ⟨t_0, t_1, t_2, t_3, t_4, t_5⟩ := (b_t.alloc (.cells #[.int .i64 v1.p.a, .int .i64 v1.p.b, .int .i64 v1.p.c, .int .i64 v1.p.d, .int .i64 v1.k] 23)).cells5
  obtain ⟨u_0, u_1, u_2, u_3, u_4, u_5⟩ := (b_u.alloc (.cells #[.int .i64 v1.p.a, .int .i64 v1.p.b, .int .i64 v1.p.c, .int .i64 v1.p.d, .int .i64 v1.k] 23)).cells5
  obtain ⟨v_0, v_1, v_2, v_3, v_4, v_5⟩ := (b_v.alloc (.cells #[.int .i64 v1.p.a, .int .i64 v1.p.b, .int .i64 v1.p.c, .int .i64 v1.p.d, .int .i64 v1.k] 23)).cells5
  go_wp2_with fail
  refine (HAW _ (ht.via (hW.alloc hW.size _))).mono ?_
  rintro e w21 ⟨rfl, hb⟩
  clear q_0 q_1 q_2 q_3 q_4 q_5 t_0 t_1 t_2 t_3 t_4 t_5 u_0 u_1 u_2 u_3 u_4 u_5 v_0 v_1 v_2 v_3 v_4 v_5
  have b_q := b_q.via hb (below1 _ _)
  have b_t := b_t.via hb (below1 _ _)
  have b_u := b_u.via hb (below1 _ _)
  have b_v := b_v.via hb (below1 _ _)
  have b_least : Blk w21 (w20.heap.size) 23 #[.int .i64 v1.p.a, .int .i64 v1.p.b, .int .i64 v1.p.c, .int .i64 v1.p.d, .int .i64 v1.k] := Blk.newb hb
  have hW := below_via hW hb (below1 _ _)
  have hS := StoreAt.via hS hb (below1 _ _)
  clear hb
  go_wp2_with fail
  go_ret
  exact ⟨rfl, hW⟩
end Go.Proofs.YtlglmooknlmomaaDoor
end
