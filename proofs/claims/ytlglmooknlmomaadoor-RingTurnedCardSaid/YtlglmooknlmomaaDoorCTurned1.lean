import Derived.Test.YtlglmooknlmomaaDoorC18
import Derived.Test.YtlglmooknlmomaaDoorCTurned0
set_option linter.all false
section
namespace Go.Proofs.YtlglmooknlmomaaDoor
open Go.RowKit
attribute [local go_sem] Oper.semAt_some
attribute [local go_sem high] eqNum
set_option maxRecDepth 100000 in
set_option maxHeartbeats 8000000 in
theorem RingTurned_walk (HAW : ∀ w : World, Tabs w → Calls Tryd.prog 15 #[] w fun e w' => e = .returned (.bool true) ∧ Below w.heap.size w w') (a : Option Addr) (n c : Nat) (w : World) (ht : Tabs w) (hB : BytesAt w a n) (ha : a = none → n = 0) (hc : n ≤ c) :
    Calls Tryd.prog 6 #[.slice a n c] w fun e w' => e = .returned (.bool true) ∧ Below w.heap.size w w' := by
  have hW := Below.refl w.heap.size w
  go_enter Tryd.func6, Tryd.ntmps6
  go_wp2_with fail
  refine (store_calls a n c _ hB ha hc).mono ?_
  rintro e w1 ⟨b, rfl, hbl, hS, hb⟩
  have hW := below_via hW hb (Below.refl _ _)
  clear hb
  go_wp2_with fail
  have hS := hS.below (Below.refl _ _)
  refine (num_calls b b _ 60 8 _ hS (by decide) (by decide) (by decide) (by decide) (by decide)).mono ?_
  rintro e w2 ⟨x, rfl, hx, hS, hg⟩
  have hW := (hW.trans (Below.mono (Below.refl _ _) hW.size)).grown hg (by have := hW.size; (try simp); omega) (by intro k hk; injection hk with hk; omega)
  clear hg
  have hbs := hS.lt
  go_wp2_with fail
  have hS := hS.below (Below.refl _ _)
  refine (num_calls b b _ 60 8 _ hS (by decide) (by decide) (by decide) (by decide) (by decide)).mono ?_
  rintro e w3 ⟨y, rfl, hy, hS, hg⟩
  have hW := (hW.trans (Below.mono (Below.refl _ _) hW.size)).grown hg (by have := hW.size; (try simp); omega) (by intro k hk; injection hk with hk; omega)
  clear hg
  have hbs := hS.lt
  clear hS hbs
  obtain ⟨a_c, b_c, l_c, s_c, m_c, d_c, u_c, v_c, w_c, c1, c2, c3, c4, c5, c6, c7, c8, c9, c10, c11, c12, c13⟩ := turned_one turn_conj hx hy
  have c1 := Lib.hid c1
  have c2 := Lib.hid c2
  have c3 := Lib.hid c3
  have c4 := Lib.hid c4
  have c5 := Lib.hid c5
  have c6 := Lib.hid c6
  have c7 := Lib.hid c7
  have c8 := Lib.hid c8
  have c9 := Lib.hid c9
  have c10 := Lib.hid c10
  have c11 := Lib.hid c11
  have c12 := Lib.hid c12
  have c13 := Lib.hid c13
  obtain ⟨a_d, b_d, l_d, s_d, m_d, d_d, u_d, v_d, w_d, d1, d2, d3, d4, d5, d6, d7, d8, d9, d10, d11, d12, d13⟩ := turned_one turn_dot hx hy
  have d1 := Lib.hid d1
  have d2 := Lib.hid d2
  have d3 := Lib.hid d3
  have d4 := Lib.hid d4
  have d5 := Lib.hid d5
  have d6 := Lib.hid d6
  have d7 := Lib.hid d7
  have d8 := Lib.hid d8
  have d9 := Lib.hid d9
  have d10 := Lib.hid d10
  have d11 := Lib.hid d11
  have d12 := Lib.hid d12
  have d13 := Lib.hid d13
  obtain ⟨ta, tb, tc, t1, t2, t3, t4⟩ := turned_two hx
  have t1 := Lib.hid t1
  have t2 := Lib.hid t2
  have t3 := Lib.hid t3
  have t4 := Lib.hid t4
  go_wp2_with fail
  refine wp_loop_rounds 3 ?_
  rw [rounds_succ]
  go_wp2_with fail
  refine (Conj_ok _ c1.out).mono ?_
  rintro e w4 ⟨rfl, hb⟩
  have b_x : Blk w4 (w3.heap.size) 23 #[.int .i64 x.p.a, .int .i64 x.p.b, .int .i64 x.p.c, .int .i64 x.p.d, .int .i64 x.k] := Blk.new30 hb
  have b_y : Blk w4 (w3.heap.size + 1) 23 #[.int .i64 y.p.a, .int .i64 y.p.b, .int .i64 y.p.c, .int .i64 y.p.d, .int .i64 y.k] := Blk.new31 hb
  have b_F : Blk w4 (w3.heap.size + 1 + 1) 33 #[.func (.func 28) #[] #[], .func (.func 29) #[] #[]] := Blk.new32 hb
  have hW := below_via hW hb (below3 _ _ _ _)
  clear hb
  obtain ⟨y_0, y_1, y_2, y_3, y_4, y_5⟩ := (b_y.alloc (.cells #[.int .i64 a_c.p.a, .int .i64 a_c.p.b, .int .i64 a_c.p.c, .int .i64 a_c.p.d, .int .i64 a_c.k] 23)).cells5
  go_wp2_with fail
  refine (Conj_ok _ c2.out).mono ?_
  rintro e w5 ⟨rfl, hb⟩
  clear y_0 y_1 y_2 y_3 y_4 y_5
  have b_x := b_x.via hb (below1 _ _)
  have b_y := b_y.via hb (below1 _ _)
  have b_F := b_F.via hb (below1 _ _)
  have b_a : Blk w5 (w4.heap.size) 23 #[.int .i64 a_c.p.a, .int .i64 a_c.p.b, .int .i64 a_c.p.c, .int .i64 a_c.p.d, .int .i64 a_c.k] := Blk.newb hb
  have hW := below_via hW hb (below1 _ _)
  clear hb
  obtain ⟨a_0, a_1, a_2, a_3, a_4, a_5⟩ := (b_a.alloc (.cells #[.int .i64 b_c.p.a, .int .i64 b_c.p.b, .int .i64 b_c.p.c, .int .i64 b_c.p.d, .int .i64 b_c.k] 23)).cells5
  go_wp2_with fail
  refine (Conj_ok _ c3.out).mono ?_
  rintro e w6 ⟨rfl, hb⟩
  clear a_0 a_1 a_2 a_3 a_4 a_5
  have b_x := b_x.via hb (below1 _ _)
  have b_y := b_y.via hb (below1 _ _)
  have b_F := b_F.via hb (below1 _ _)
  have b_a := b_a.via hb (below1 _ _)
  have b_b : Blk w6 (w5.heap.size) 23 #[.int .i64 b_c.p.a, .int .i64 b_c.p.b, .int .i64 b_c.p.c, .int .i64 b_c.p.d, .int .i64 b_c.k] := Blk.newb hb
  have hW := below_via hW hb (below1 _ _)
  clear hb
  obtain ⟨x_0, x_1, x_2, x_3, x_4, x_5⟩ := (b_x.alloc (.cells #[.int .i64 l_c.p.a, .int .i64 l_c.p.b, .int .i64 l_c.p.c, .int .i64 l_c.p.d, .int .i64 l_c.k] 23)).cells5
  go_wp2_with fail
  refine (Least_ok _ c4.out).mono ?_
  rintro e w7 ⟨rfl, hb⟩
  clear x_0 x_1 x_2 x_3 x_4 x_5
  have b_x := b_x.via hb (below1 _ _)
  have b_y := b_y.via hb (below1 _ _)
  have b_F := b_F.via hb (below1 _ _)
  have b_a := b_a.via hb (below1 _ _)
  have b_b := b_b.via hb (below1 _ _)
  have b_back : Blk w7 (w6.heap.size) 23 #[.int .i64 l_c.p.a, .int .i64 l_c.p.b, .int .i64 l_c.p.c, .int .i64 l_c.p.d, .int .i64 l_c.k] := Blk.newb hb
  have hW := below_via hW hb (below1 _ _)
  clear hb
  obtain ⟨back_0, back_1, back_2, back_3, back_4, back_5⟩ := (b_back.alloc (.cells #[.int .i64 l_c.p.a, .int .i64 l_c.p.b, .int .i64 l_c.p.c, .int .i64 l_c.p.d, .int .i64 l_c.k] 23)).cells5
  obtain ⟨x_0, x_1, x_2, x_3, x_4, x_5⟩ := ((b_x.alloc (.cells #[.int .i64 l_c.p.a, .int .i64 l_c.p.b, .int .i64 l_c.p.c, .int .i64 l_c.p.d, .int .i64 l_c.k] 23)).alloc (.cells #[.func (.func 30) #[] #[], .func (.func 31) #[] #[], .func (.func 32) #[] #[]] 26)).cells5
  obtain ⟨y_0, y_1, y_2, y_3, y_4, y_5⟩ := ((b_y.alloc (.cells #[.int .i64 l_c.p.a, .int .i64 l_c.p.b, .int .i64 l_c.p.c, .int .i64 l_c.p.d, .int .i64 l_c.k] 23)).alloc (.cells #[.func (.func 30) #[] #[], .func (.func 31) #[] #[], .func (.func 32) #[] #[]] 26)).cells5
  go_wp2_with fail
  refine wp_loop_rounds 4 ?_
  rw [rounds_succ]
  go_wp2_with fail
  refine (Add_ok _ c5.out).mono ?_
  rintro e w8 ⟨rfl, hb⟩
  clear back_0 back_1 back_2 back_3 back_4 back_5 x_0 x_1 x_2 x_3 x_4 x_5 y_0 y_1 y_2 y_3 y_4 y_5
  have b_x := b_x.via hb (below2 _ _ _)
  have b_y := b_y.via hb (below2 _ _ _)
  have b_F := b_F.via hb (below2 _ _ _)
  have b_a := b_a.via hb (below2 _ _ _)
  have b_b := b_b.via hb (below2 _ _ _)
  clear b_back
  have b_G0 : Blk w8 (w7.heap.size + 1) 26 #[.func (.func 30) #[] #[], .func (.func 31) #[] #[], .func (.func 32) #[] #[]] := Blk.new21 hb
  have hW := below_via hW hb (below2 _ _ _)
  clear hb
  go_wp2_with fail
  refine (Conj_ok _ c6.out).mono ?_
  rintro e w9 ⟨rfl, hb⟩
  have b_x := b_x.via hb (below1 _ _)
  have b_y := b_y.via hb (below1 _ _)
  have b_F := b_F.via hb (below1 _ _)
  have b_a := b_a.via hb (below1 _ _)
  have b_b := b_b.via hb (below1 _ _)
  have b_G0 := b_G0.via hb (below1 _ _)
  have b_c2 : Blk w9 (w8.heap.size) 23 #[.int .i64 s_c.p.a, .int .i64 s_c.p.b, .int .i64 s_c.p.c, .int .i64 s_c.p.d, .int .i64 s_c.k] := Blk.newb hb
  have hW := below_via hW hb (below1 _ _)
  clear hb
  obtain ⟨a_0, a_1, a_2, a_3, a_4, a_5⟩ := (b_a.alloc (.cells #[.int .i64 u_c.p.a, .int .i64 u_c.p.b, .int .i64 u_c.p.c, .int .i64 u_c.p.d, .int .i64 u_c.k] 23)).cells5
  obtain ⟨b_0, b_1, b_2, b_3, b_4, b_5⟩ := (b_b.alloc (.cells #[.int .i64 u_c.p.a, .int .i64 u_c.p.b, .int .i64 u_c.p.c, .int .i64 u_c.p.d, .int .i64 u_c.k] 23)).cells5
  go_wp2_with fail
  refine (Add_ok _ c7.out).mono ?_
  rintro e w10 ⟨rfl, hb⟩
  clear a_0 a_1 a_2 a_3 a_4 a_5 b_0 b_1 b_2 b_3 b_4 b_5
  have b_x := b_x.via hb (below1 _ _)
  have b_y := b_y.via hb (below1 _ _)
  have b_F := b_F.via hb (below1 _ _)
  have b_a := b_a.via hb (below1 _ _)
  have b_b := b_b.via hb (below1 _ _)
  have b_G0 := b_G0.via hb (below1 _ _)
  clear b_c2
  have b_d2 : Blk w10 (w9.heap.size) 23 #[.int .i64 u_c.p.a, .int .i64 u_c.p.b, .int .i64 u_c.p.c, .int .i64 u_c.p.d, .int .i64 u_c.k] := Blk.newb hb
  have hW := below_via hW hb (below1 _ _)
  clear hb
  obtain ⟨d2_0, d2_1, d2_2, d2_3, d2_4, d2_5⟩ := (b_d2.alloc (.cells #[.int .i64 u_c.p.a, .int .i64 u_c.p.b, .int .i64 u_c.p.c, .int .i64 u_c.p.d, .int .i64 u_c.k] 23)).cells5
  have G0_0 := (b_G0.alloc (.cells #[.int .i64 u_c.p.a, .int .i64 u_c.p.b, .int .i64 u_c.p.c, .int .i64 u_c.p.d, .int .i64 u_c.k] 23)).cell 0
  have G0_1 := (b_G0.alloc (.cells #[.int .i64 u_c.p.a, .int .i64 u_c.p.b, .int .i64 u_c.p.c, .int .i64 u_c.p.d, .int .i64 u_c.k] 23)).cell 1
  have G0_2 := (b_G0.alloc (.cells #[.int .i64 u_c.p.a, .int .i64 u_c.p.b, .int .i64 u_c.p.c, .int .i64 u_c.p.d, .int .i64 u_c.k] 23)).cell 2
  have G0_3 := True.intro
  have G0_4 := True.intro
  have G0_5 := True.intro
  obtain ⟨x_0, x_1, x_2, x_3, x_4, x_5⟩ := (b_x.alloc (.cells #[.int .i64 u_c.p.a, .int .i64 u_c.p.b, .int .i64 u_c.p.c, .int .i64 u_c.p.d, .int .i64 u_c.k] 23)).cells5
  obtain ⟨y_0, y_1, y_2, y_3, y_4, y_5⟩ := (b_y.alloc (.cells #[.int .i64 u_c.p.a, .int .i64 u_c.p.b, .int .i64 u_c.p.c, .int .i64 u_c.p.d, .int .i64 u_c.k] 23)).cells5
  go_wp2_with fail
  rw [rounds_succ]
  go_wp2_with fail
  refine (Mul_ok _ c8.out).mono ?_
  rintro e w11 ⟨rfl, hb⟩
  clear d2_0 d2_1 d2_2 d2_3 d2_4 d2_5 G0_0 G0_1 G0_2 G0_3 G0_4 G0_5 x_0 x_1 x_2 x_3 x_4 x_5 y_0 y_1 y_2 y_3 y_4 y_5
  have b_x := b_x.via hb (below1 _ _)
  have b_y := b_y.via hb (below1 _ _)
  have b_F := b_F.via hb (below1 _ _)
  have b_a := b_a.via hb (below1 _ _)
  have b_b := b_b.via hb (below1 _ _)
  have b_G0 := b_G0.via hb (below1 _ _)
  clear b_d2
  have hW := below_via hW hb (below1 _ _)
  clear hb
  go_wp2_with fail
  refine (Conj_ok _ c9.out).mono ?_
  rintro e w12 ⟨rfl, hb⟩
  have b_x := b_x.via hb (below1 _ _)
  have b_y := b_y.via hb (below1 _ _)
  have b_F := b_F.via hb (below1 _ _)
  have b_a := b_a.via hb (below1 _ _)
  have b_b := b_b.via hb (below1 _ _)
  have b_G0 := b_G0.via hb (below1 _ _)
  have b_c2 : Blk w12 (w11.heap.size) 23 #[.int .i64 m_c.p.a, .int .i64 m_c.p.b, .int .i64 m_c.p.c, .int .i64 m_c.p.d, .int .i64 m_c.k] := Blk.newb hb
  have hW := below_via hW hb (below1 _ _)
  clear hb
  obtain ⟨a_0, a_1, a_2, a_3, a_4, a_5⟩ := (b_a.alloc (.cells #[.int .i64 v_c.p.a, .int .i64 v_c.p.b, .int .i64 v_c.p.c, .int .i64 v_c.p.d, .int .i64 v_c.k] 23)).cells5
  obtain ⟨b_0, b_1, b_2, b_3, b_4, b_5⟩ := (b_b.alloc (.cells #[.int .i64 v_c.p.a, .int .i64 v_c.p.b, .int .i64 v_c.p.c, .int .i64 v_c.p.d, .int .i64 v_c.k] 23)).cells5
  go_wp2_with fail
  refine (Mul_ok _ c10.out).mono ?_
  rintro e w13 ⟨rfl, hb⟩
  clear a_0 a_1 a_2 a_3 a_4 a_5 b_0 b_1 b_2 b_3 b_4 b_5
  have b_x := b_x.via hb (below1 _ _)
  have b_y := b_y.via hb (below1 _ _)
  have b_F := b_F.via hb (below1 _ _)
  have b_a := b_a.via hb (below1 _ _)
  have b_b := b_b.via hb (below1 _ _)
  have b_G0 := b_G0.via hb (below1 _ _)
  clear b_c2
  have b_d2 : Blk w13 (w12.heap.size) 23 #[.int .i64 v_c.p.a, .int .i64 v_c.p.b, .int .i64 v_c.p.c, .int .i64 v_c.p.d, .int .i64 v_c.k] := Blk.newb hb
  have hW := below_via hW hb (below1 _ _)
  clear hb
  obtain ⟨d2_0, d2_1, d2_2, d2_3, d2_4, d2_5⟩ := (b_d2.alloc (.cells #[.int .i64 v_c.p.a, .int .i64 v_c.p.b, .int .i64 v_c.p.c, .int .i64 v_c.p.d, .int .i64 v_c.k] 23)).cells5
  have G0_0 := (b_G0.alloc (.cells #[.int .i64 v_c.p.a, .int .i64 v_c.p.b, .int .i64 v_c.p.c, .int .i64 v_c.p.d, .int .i64 v_c.k] 23)).cell 0
  have G0_1 := (b_G0.alloc (.cells #[.int .i64 v_c.p.a, .int .i64 v_c.p.b, .int .i64 v_c.p.c, .int .i64 v_c.p.d, .int .i64 v_c.k] 23)).cell 1
  have G0_2 := (b_G0.alloc (.cells #[.int .i64 v_c.p.a, .int .i64 v_c.p.b, .int .i64 v_c.p.c, .int .i64 v_c.p.d, .int .i64 v_c.k] 23)).cell 2
  have G0_3 := True.intro
  have G0_4 := True.intro
  have G0_5 := True.intro
  obtain ⟨x_0, x_1, x_2, x_3, x_4, x_5⟩ := (b_x.alloc (.cells #[.int .i64 v_c.p.a, .int .i64 v_c.p.b, .int .i64 v_c.p.c, .int .i64 v_c.p.d, .int .i64 v_c.k] 23)).cells5
  obtain ⟨y_0, y_1, y_2, y_3, y_4, y_5⟩ := (b_y.alloc (.cells #[.int .i64 v_c.p.a, .int .i64 v_c.p.b, .int .i64 v_c.p.c, .int .i64 v_c.p.d, .int .i64 v_c.k] 23)).cells5
  go_wp2_with fail
  rw [rounds_succ]
  go_wp2_with fail
  refine (Sub_ok _ c11.out).mono ?_
  rintro e w14 ⟨rfl, hb⟩
  clear d2_0 d2_1 d2_2 d2_3 d2_4 d2_5 G0_0 G0_1 G0_2 G0_3 G0_4 G0_5 x_0 x_1 x_2 x_3 x_4 x_5 y_0 y_1 y_2 y_3 y_4 y_5
  have b_x := b_x.via hb (below1 _ _)
  have b_y := b_y.via hb (below1 _ _)
  have b_F := b_F.via hb (below1 _ _)
  have b_a := b_a.via hb (below1 _ _)
  have b_b := b_b.via hb (below1 _ _)
  have b_G0 := b_G0.via hb (below1 _ _)
  clear b_d2
  have hW := below_via hW hb (below1 _ _)
  clear hb
  go_wp2_with fail
  refine (Conj_ok _ c12.out).mono ?_
  rintro e w15 ⟨rfl, hb⟩
  have b_x := b_x.via hb (below1 _ _)
  have b_y := b_y.via hb (below1 _ _)
  have b_F := b_F.via hb (below1 _ _)
  have b_a := b_a.via hb (below1 _ _)
  have b_b := b_b.via hb (below1 _ _)
  have b_G0 := b_G0.via hb (below1 _ _)
  have b_c2 : Blk w15 (w14.heap.size) 23 #[.int .i64 d_c.p.a, .int .i64 d_c.p.b, .int .i64 d_c.p.c, .int .i64 d_c.p.d, .int .i64 d_c.k] := Blk.newb hb
  have hW := below_via hW hb (below1 _ _)
  clear hb
  obtain ⟨a_0, a_1, a_2, a_3, a_4, a_5⟩ := (b_a.alloc (.cells #[.int .i64 w_c.p.a, .int .i64 w_c.p.b, .int .i64 w_c.p.c, .int .i64 w_c.p.d, .int .i64 w_c.k] 23)).cells5
  obtain ⟨b_0, b_1, b_2, b_3, b_4, b_5⟩ := (b_b.alloc (.cells #[.int .i64 w_c.p.a, .int .i64 w_c.p.b, .int .i64 w_c.p.c, .int .i64 w_c.p.d, .int .i64 w_c.k] 23)).cells5
  go_wp2_with fail
  refine (Sub_ok _ c13.out).mono ?_
  rintro e w16 ⟨rfl, hb⟩
  clear a_0 a_1 a_2 a_3 a_4 a_5 b_0 b_1 b_2 b_3 b_4 b_5
  have b_x := b_x.via hb (below1 _ _)
  have b_y := b_y.via hb (below1 _ _)
  have b_F := b_F.via hb (below1 _ _)
  have b_a := b_a.via hb (below1 _ _)
  have b_b := b_b.via hb (below1 _ _)
  have b_G0 := b_G0.via hb (below1 _ _)
  clear b_c2
  have b_d2 : Blk w16 (w15.heap.size) 23 #[.int .i64 w_c.p.a, .int .i64 w_c.p.b, .int .i64 w_c.p.c, .int .i64 w_c.p.d, .int .i64 w_c.k] := Blk.newb hb
  have hW := below_via hW hb (below1 _ _)
  clear hb
  obtain ⟨d2_0, d2_1, d2_2, d2_3, d2_4, d2_5⟩ := (b_d2.alloc (.cells #[.int .i64 w_c.p.a, .int .i64 w_c.p.b, .int .i64 w_c.p.c, .int .i64 w_c.p.d, .int .i64 w_c.k] 23)).cells5
  have F_0 := (b_F.alloc (.cells #[.int .i64 w_c.p.a, .int .i64 w_c.p.b, .int .i64 w_c.p.c, .int .i64 w_c.p.d, .int .i64 w_c.k] 23)).cell 0
  have F_1 := (b_F.alloc (.cells #[.int .i64 w_c.p.a, .int .i64 w_c.p.b, .int .i64 w_c.p.c, .int .i64 w_c.p.d, .int .i64 w_c.k] 23)).cell 1
  have F_2 := True.intro
  have F_3 := True.intro
  have F_4 := True.intro
  have F_5 := True.intro
  obtain ⟨x_0, x_1, x_2, x_3, x_4, x_5⟩ := (b_x.alloc (.cells #[.int .i64 w_c.p.a, .int .i64 w_c.p.b, .int .i64 w_c.p.c, .int .i64 w_c.p.d, .int .i64 w_c.k] 23)).cells5
  go_wp2_with fail
  rw [rounds_succ]
  go_wp2_with fail
  rw [rounds_succ]
  go_wp2_with fail
  refine (Dot_ok _ d1.out).mono ?_
  rintro e w17 ⟨rfl, hb⟩
  clear d2_0 d2_1 d2_2 d2_3 d2_4 d2_5 F_0 F_1 F_2 F_3 F_4 F_5 x_0 x_1 x_2 x_3 x_4 x_5
  have b_x := b_x.via hb (below1 _ _)
  have b_y := b_y.via hb (below1 _ _)
  have b_F := b_F.via hb (below1 _ _)
  have b_a := b_a.via hb (below1 _ _)
  have b_b := b_b.via hb (below1 _ _)
  have b_G0 := b_G0.via hb (below1 _ _)
  have b_d2 := b_d2.via hb (below1 _ _)
  have b_i2 : Blk w17 (w16.heap.size) 23 #[.int .i64 w_c.p.a, .int .i64 w_c.p.b, .int .i64 w_c.p.c, .int .i64 w_c.p.d, .int .i64 w_c.k] := Blk.newb hb
  have hW := below_via hW hb (below1 _ _)
  clear hb
  obtain ⟨y_0, y_1, y_2, y_3, y_4, y_5⟩ := (b_y.alloc (.cells #[.int .i64 a_d.p.a, .int .i64 a_d.p.b, .int .i64 a_d.p.c, .int .i64 a_d.p.d, .int .i64 a_d.k] 23)).cells5
  go_wp2_with fail
  refine (Dot_ok _ d2.out).mono ?_
  rintro e w18 ⟨rfl, hb⟩
  clear y_0 y_1 y_2 y_3 y_4 y_5
  have b_x := b_x.via hb (below1 _ _)
  have b_y := b_y.via hb (below1 _ _)
  have b_F := b_F.via hb (below1 _ _)
  have b_a := b_a.via hb (below1 _ _)
  have b_b := b_b.via hb (below1 _ _)
  have b_G0 := b_G0.via hb (below1 _ _)
  have b_d2 := b_d2.via hb (below1 _ _)
  have b_i2 := b_i2.via hb (below1 _ _)
  have b_a : Blk w18 (w17.heap.size) 23 #[.int .i64 a_d.p.a, .int .i64 a_d.p.b, .int .i64 a_d.p.c, .int .i64 a_d.p.d, .int .i64 a_d.k] := Blk.newb hb
  have hW := below_via hW hb (below1 _ _)
  clear hb
  obtain ⟨a_0, a_1, a_2, a_3, a_4, a_5⟩ := (b_a.alloc (.cells #[.int .i64 b_d.p.a, .int .i64 b_d.p.b, .int .i64 b_d.p.c, .int .i64 b_d.p.d, .int .i64 b_d.k] 23)).cells5
  go_wp2_with fail
  refine (Dot_ok _ d3.out).mono ?_
  rintro e w19 ⟨rfl, hb⟩
  clear a_0 a_1 a_2 a_3 a_4 a_5
  have b_x := b_x.via hb (below1 _ _)
  have b_y := b_y.via hb (below1 _ _)
  have b_F := b_F.via hb (below1 _ _)
  have b_a := b_a.via hb (below1 _ _)
  have b_b := b_b.via hb (below1 _ _)
  have b_G0 := b_G0.via hb (below1 _ _)
  have b_d2 := b_d2.via hb (below1 _ _)
  have b_i2 := b_i2.via hb (below1 _ _)
  have b_b : Blk w19 (w18.heap.size) 23 #[.int .i64 b_d.p.a, .int .i64 b_d.p.b, .int .i64 b_d.p.c, .int .i64 b_d.p.d, .int .i64 b_d.k] := Blk.newb hb
  have hW := below_via hW hb (below1 _ _)
  clear hb
  obtain ⟨x_0, x_1, x_2, x_3, x_4, x_5⟩ := (b_x.alloc (.cells #[.int .i64 l_d.p.a, .int .i64 l_d.p.b, .int .i64 l_d.p.c, .int .i64 l_d.p.d, .int .i64 l_d.k] 23)).cells5
  go_wp2_with fail
  refine (Least_ok _ d4.out).mono ?_
  rintro e w20 ⟨rfl, hb⟩
  clear x_0 x_1 x_2 x_3 x_4 x_5
  have b_x := b_x.via hb (below1 _ _)
  have b_y := b_y.via hb (below1 _ _)
  have b_F := b_F.via hb (below1 _ _)
  have b_a := b_a.via hb (below1 _ _)
  have b_b := b_b.via hb (below1 _ _)
  have b_G0 := b_G0.via hb (below1 _ _)
  have b_d2 := b_d2.via hb (below1 _ _)
  have b_i2 := b_i2.via hb (below1 _ _)
  have b_back : Blk w20 (w19.heap.size) 23 #[.int .i64 l_d.p.a, .int .i64 l_d.p.b, .int .i64 l_d.p.c, .int .i64 l_d.p.d, .int .i64 l_d.k] := Blk.newb hb
  have hW := below_via hW hb (below1 _ _)
  clear hb
  obtain ⟨back_0, back_1, back_2, back_3, back_4, back_5⟩ := (b_back.alloc (.cells #[.int .i64 l_d.p.a, .int .i64 l_d.p.b, .int .i64 l_d.p.c, .int .i64 l_d.p.d, .int .i64 l_d.k] 23)).cells5
  obtain ⟨x_0, x_1, x_2, x_3, x_4, x_5⟩ := ((b_x.alloc (.cells #[.int .i64 l_d.p.a, .int .i64 l_d.p.b, .int .i64 l_d.p.c, .int .i64 l_d.p.d, .int .i64 l_d.k] 23)).alloc (.cells #[.func (.func 30) #[] #[], .func (.func 31) #[] #[], .func (.func 32) #[] #[]] 26)).cells5
  obtain ⟨y_0, y_1, y_2, y_3, y_4, y_5⟩ := ((b_y.alloc (.cells #[.int .i64 l_d.p.a, .int .i64 l_d.p.b, .int .i64 l_d.p.c, .int .i64 l_d.p.d, .int .i64 l_d.k] 23)).alloc (.cells #[.func (.func 30) #[] #[], .func (.func 31) #[] #[], .func (.func 32) #[] #[]] 26)).cells5
  go_wp2_with fail
  refine wp_loop_rounds 4 ?_
  rw [rounds_succ]
  go_wp2_with fail
  refine (Add_ok _ d5.out).mono ?_
  rintro e w21 ⟨rfl, hb⟩
  clear back_0 back_1 back_2 back_3 back_4 back_5 x_0 x_1 x_2 x_3 x_4 x_5 y_0 y_1 y_2 y_3 y_4 y_5
  have b_x := b_x.via hb (below2 _ _ _)
  have b_y := b_y.via hb (below2 _ _ _)
  have b_F := b_F.via hb (below2 _ _ _)
  have b_a := b_a.via hb (below2 _ _ _)
  have b_b := b_b.via hb (below2 _ _ _)
  clear b_G0
  clear b_d2
  clear b_i2
  clear b_back
  have b_G1 : Blk w21 (w20.heap.size + 1) 26 #[.func (.func 30) #[] #[], .func (.func 31) #[] #[], .func (.func 32) #[] #[]] := Blk.new21 hb
  have hW := below_via hW hb (below2 _ _ _)
  clear hb
  go_wp2_with fail
  refine (Dot_ok _ d6.out).mono ?_
  rintro e w22 ⟨rfl, hb⟩
  have b_x := b_x.via hb (below1 _ _)
  have b_y := b_y.via hb (below1 _ _)
  have b_F := b_F.via hb (below1 _ _)
  have b_a := b_a.via hb (below1 _ _)
  have b_b := b_b.via hb (below1 _ _)
  have b_G1 := b_G1.via hb (below1 _ _)
  have b_c2 : Blk w22 (w21.heap.size) 23 #[.int .i64 s_d.p.a, .int .i64 s_d.p.b, .int .i64 s_d.p.c, .int .i64 s_d.p.d, .int .i64 s_d.k] := Blk.newb hb
  have hW := below_via hW hb (below1 _ _)
  clear hb
  obtain ⟨a_0, a_1, a_2, a_3, a_4, a_5⟩ := (b_a.alloc (.cells #[.int .i64 u_d.p.a, .int .i64 u_d.p.b, .int .i64 u_d.p.c, .int .i64 u_d.p.d, .int .i64 u_d.k] 23)).cells5
  obtain ⟨b_0, b_1, b_2, b_3, b_4, b_5⟩ := (b_b.alloc (.cells #[.int .i64 u_d.p.a, .int .i64 u_d.p.b, .int .i64 u_d.p.c, .int .i64 u_d.p.d, .int .i64 u_d.k] 23)).cells5
  go_wp2_with fail
  refine (Add_ok _ d7.out).mono ?_
  rintro e w23 ⟨rfl, hb⟩
  clear a_0 a_1 a_2 a_3 a_4 a_5 b_0 b_1 b_2 b_3 b_4 b_5
  have b_x := b_x.via hb (below1 _ _)
  have b_y := b_y.via hb (below1 _ _)
  have b_F := b_F.via hb (below1 _ _)
  have b_a := b_a.via hb (below1 _ _)
  have b_b := b_b.via hb (below1 _ _)
  have b_G1 := b_G1.via hb (below1 _ _)
  clear b_c2
  have b_d2 : Blk w23 (w22.heap.size) 23 #[.int .i64 u_d.p.a, .int .i64 u_d.p.b, .int .i64 u_d.p.c, .int .i64 u_d.p.d, .int .i64 u_d.k] := Blk.newb hb
  have hW := below_via hW hb (below1 _ _)
  clear hb
  obtain ⟨d2_0, d2_1, d2_2, d2_3, d2_4, d2_5⟩ := (b_d2.alloc (.cells #[.int .i64 u_d.p.a, .int .i64 u_d.p.b, .int .i64 u_d.p.c, .int .i64 u_d.p.d, .int .i64 u_d.k] 23)).cells5
  have G1_0 := (b_G1.alloc (.cells #[.int .i64 u_d.p.a, .int .i64 u_d.p.b, .int .i64 u_d.p.c, .int .i64 u_d.p.d, .int .i64 u_d.k] 23)).cell 0
  have G1_1 := (b_G1.alloc (.cells #[.int .i64 u_d.p.a, .int .i64 u_d.p.b, .int .i64 u_d.p.c, .int .i64 u_d.p.d, .int .i64 u_d.k] 23)).cell 1
  have G1_2 := (b_G1.alloc (.cells #[.int .i64 u_d.p.a, .int .i64 u_d.p.b, .int .i64 u_d.p.c, .int .i64 u_d.p.d, .int .i64 u_d.k] 23)).cell 2
  have G1_3 := True.intro
  have G1_4 := True.intro
  have G1_5 := True.intro
  obtain ⟨x_0, x_1, x_2, x_3, x_4, x_5⟩ := (b_x.alloc (.cells #[.int .i64 u_d.p.a, .int .i64 u_d.p.b, .int .i64 u_d.p.c, .int .i64 u_d.p.d, .int .i64 u_d.k] 23)).cells5
  obtain ⟨y_0, y_1, y_2, y_3, y_4, y_5⟩ := (b_y.alloc (.cells #[.int .i64 u_d.p.a, .int .i64 u_d.p.b, .int .i64 u_d.p.c, .int .i64 u_d.p.d, .int .i64 u_d.k] 23)).cells5
  go_wp2_with fail
  rw [rounds_succ]
  go_wp2_with fail
  refine (Mul_ok _ d8.out).mono ?_
  rintro e w24 ⟨rfl, hb⟩
  clear d2_0 d2_1 d2_2 d2_3 d2_4 d2_5 G1_0 G1_1 G1_2 G1_3 G1_4 G1_5 x_0 x_1 x_2 x_3 x_4 x_5 y_0 y_1 y_2 y_3 y_4 y_5
  have b_x := b_x.via hb (below1 _ _)
  have b_y := b_y.via hb (below1 _ _)
  have b_F := b_F.via hb (below1 _ _)
  have b_a := b_a.via hb (below1 _ _)
  have b_b := b_b.via hb (below1 _ _)
  have b_G1 := b_G1.via hb (below1 _ _)
  clear b_d2
  have hW := below_via hW hb (below1 _ _)
  clear hb
  go_wp2_with fail
  refine (Dot_ok _ d9.out).mono ?_
  rintro e w25 ⟨rfl, hb⟩
  have b_x := b_x.via hb (below1 _ _)
  have b_y := b_y.via hb (below1 _ _)
  have b_F := b_F.via hb (below1 _ _)
  have b_a := b_a.via hb (below1 _ _)
  have b_b := b_b.via hb (below1 _ _)
  have b_G1 := b_G1.via hb (below1 _ _)
  have b_c2 : Blk w25 (w24.heap.size) 23 #[.int .i64 m_d.p.a, .int .i64 m_d.p.b, .int .i64 m_d.p.c, .int .i64 m_d.p.d, .int .i64 m_d.k] := Blk.newb hb
  have hW := below_via hW hb (below1 _ _)
  clear hb
  obtain ⟨a_0, a_1, a_2, a_3, a_4, a_5⟩ := (b_a.alloc (.cells #[.int .i64 v_d.p.a, .int .i64 v_d.p.b, .int .i64 v_d.p.c, .int .i64 v_d.p.d, .int .i64 v_d.k] 23)).cells5
  obtain ⟨b_0, b_1, b_2, b_3, b_4, b_5⟩ := (b_b.alloc (.cells #[.int .i64 v_d.p.a, .int .i64 v_d.p.b, .int .i64 v_d.p.c, .int .i64 v_d.p.d, .int .i64 v_d.k] 23)).cells5
  go_wp2_with fail
  refine (Mul_ok _ d10.out).mono ?_
  rintro e w26 ⟨rfl, hb⟩
  clear a_0 a_1 a_2 a_3 a_4 a_5 b_0 b_1 b_2 b_3 b_4 b_5
  have b_x := b_x.via hb (below1 _ _)
  have b_y := b_y.via hb (below1 _ _)
  have b_F := b_F.via hb (below1 _ _)
  have b_a := b_a.via hb (below1 _ _)
  have b_b := b_b.via hb (below1 _ _)
  have b_G1 := b_G1.via hb (below1 _ _)
  clear b_c2
  have b_d2 : Blk w26 (w25.heap.size) 23 #[.int .i64 v_d.p.a, .int .i64 v_d.p.b, .int .i64 v_d.p.c, .int .i64 v_d.p.d, .int .i64 v_d.k] := Blk.newb hb
  have hW := below_via hW hb (below1 _ _)
  clear hb
  obtain ⟨d2_0, d2_1, d2_2, d2_3, d2_4, d2_5⟩ := (b_d2.alloc (.cells #[.int .i64 v_d.p.a, .int .i64 v_d.p.b, .int .i64 v_d.p.c, .int .i64 v_d.p.d, .int .i64 v_d.k] 23)).cells5
  have G1_0 := (b_G1.alloc (.cells #[.int .i64 v_d.p.a, .int .i64 v_d.p.b, .int .i64 v_d.p.c, .int .i64 v_d.p.d, .int .i64 v_d.k] 23)).cell 0
  have G1_1 := (b_G1.alloc (.cells #[.int .i64 v_d.p.a, .int .i64 v_d.p.b, .int .i64 v_d.p.c, .int .i64 v_d.p.d, .int .i64 v_d.k] 23)).cell 1
  have G1_2 := (b_G1.alloc (.cells #[.int .i64 v_d.p.a, .int .i64 v_d.p.b, .int .i64 v_d.p.c, .int .i64 v_d.p.d, .int .i64 v_d.k] 23)).cell 2
  have G1_3 := True.intro
  have G1_4 := True.intro
  have G1_5 := True.intro
  obtain ⟨x_0, x_1, x_2, x_3, x_4, x_5⟩ := (b_x.alloc (.cells #[.int .i64 v_d.p.a, .int .i64 v_d.p.b, .int .i64 v_d.p.c, .int .i64 v_d.p.d, .int .i64 v_d.k] 23)).cells5
  obtain ⟨y_0, y_1, y_2, y_3, y_4, y_5⟩ := (b_y.alloc (.cells #[.int .i64 v_d.p.a, .int .i64 v_d.p.b, .int .i64 v_d.p.c, .int .i64 v_d.p.d, .int .i64 v_d.k] 23)).cells5
  go_wp2_with fail
  rw [rounds_succ]
  go_wp2_with fail
  refine (Sub_ok _ d11.out).mono ?_
  rintro e w27 ⟨rfl, hb⟩
  clear d2_0 d2_1 d2_2 d2_3 d2_4 d2_5 G1_0 G1_1 G1_2 G1_3 G1_4 G1_5 x_0 x_1 x_2 x_3 x_4 x_5 y_0 y_1 y_2 y_3 y_4 y_5
  have b_x := b_x.via hb (below1 _ _)
  have b_y := b_y.via hb (below1 _ _)
  have b_F := b_F.via hb (below1 _ _)
  have b_a := b_a.via hb (below1 _ _)
  have b_b := b_b.via hb (below1 _ _)
  have b_G1 := b_G1.via hb (below1 _ _)
  clear b_d2
  have hW := below_via hW hb (below1 _ _)
  clear hb
  go_wp2_with fail
  refine (Dot_ok _ d12.out).mono ?_
  rintro e w28 ⟨rfl, hb⟩
  have b_x := b_x.via hb (below1 _ _)
  have b_y := b_y.via hb (below1 _ _)
  have b_F := b_F.via hb (below1 _ _)
  have b_a := b_a.via hb (below1 _ _)
  have b_b := b_b.via hb (below1 _ _)
  have b_G1 := b_G1.via hb (below1 _ _)
  have b_c2 : Blk w28 (w27.heap.size) 23 #[.int .i64 d_d.p.a, .int .i64 d_d.p.b, .int .i64 d_d.p.c, .int .i64 d_d.p.d, .int .i64 d_d.k] := Blk.newb hb
  have hW := below_via hW hb (below1 _ _)
  clear hb
  obtain ⟨a_0, a_1, a_2, a_3, a_4, a_5⟩ := (b_a.alloc (.cells #[.int .i64 w_d.p.a, .int .i64 w_d.p.b, .int .i64 w_d.p.c, .int .i64 w_d.p.d, .int .i64 w_d.k] 23)).cells5
  obtain ⟨b_0, b_1, b_2, b_3, b_4, b_5⟩ := (b_b.alloc (.cells #[.int .i64 w_d.p.a, .int .i64 w_d.p.b, .int .i64 w_d.p.c, .int .i64 w_d.p.d, .int .i64 w_d.k] 23)).cells5
  go_wp2_with fail
  refine (Sub_ok _ d13.out).mono ?_
  rintro e w29 ⟨rfl, hb⟩
  clear a_0 a_1 a_2 a_3 a_4 a_5 b_0 b_1 b_2 b_3 b_4 b_5
  have b_x := b_x.via hb (below1 _ _)
  have b_y := b_y.via hb (below1 _ _)
  have b_F := b_F.via hb (below1 _ _)
  have b_a := b_a.via hb (below1 _ _)
  have b_b := b_b.via hb (below1 _ _)
  have b_G1 := b_G1.via hb (below1 _ _)
  clear b_c2
  have b_d2 : Blk w29 (w28.heap.size) 23 #[.int .i64 w_d.p.a, .int .i64 w_d.p.b, .int .i64 w_d.p.c, .int .i64 w_d.p.d, .int .i64 w_d.k] := Blk.newb hb
  have hW := below_via hW hb (below1 _ _)
  clear hb
  obtain ⟨d2_0, d2_1, d2_2, d2_3, d2_4, d2_5⟩ := (b_d2.alloc (.cells #[.int .i64 w_d.p.a, .int .i64 w_d.p.b, .int .i64 w_d.p.c, .int .i64 w_d.p.d, .int .i64 w_d.k] 23)).cells5
  obtain ⟨x_0, x_1, x_2, x_3, x_4, x_5⟩ := (b_x.alloc (.cells #[.int .i64 w_d.p.a, .int .i64 w_d.p.b, .int .i64 w_d.p.c, .int .i64 w_d.p.d, .int .i64 w_d.k] 23)).cells5
  go_wp2_with fail
  rw [rounds_succ]
  go_wp2_with fail
  rw [rounds_succ]
  go_wp2_with fail
  refine (Conj_ok _ t1.out).mono ?_
  rintro e w30 ⟨rfl, hb⟩
  clear d2_0 d2_1 d2_2 d2_3 d2_4 d2_5 x_0 x_1 x_2 x_3 x_4 x_5
  have b_x := b_x.via hb (below1 _ _)
  clear b_y
  clear b_F
  clear b_a
  clear b_b
  clear b_G1
  clear b_d2
  have hW := below_via hW hb (below1 _ _)
  clear hb
  go_wp2_with fail
  refine (Dot_ok _ t2.out).mono ?_
  rintro e w31 ⟨rfl, hb⟩
  have b_x := b_x.via hb (below1 _ _)
  have hW := below_via hW hb (below1 _ _)
  clear hb
  obtain ⟨x_0, x_1, x_2, x_3, x_4, x_5⟩ := (b_x.alloc (.cells #[.int .i64 tb.p.a, .int .i64 tb.p.b, .int .i64 tb.p.c, .int .i64 tb.p.d, .int .i64 tb.k] 23)).cells5
  go_wp2_with fail
  refine (Dot_ok _ t3.out).mono ?_
  rintro e w32 ⟨rfl, hb⟩
  clear x_0 x_1 x_2 x_3 x_4 x_5
  clear b_x
  have b_tb2 : Blk w32 (w31.heap.size) 23 #[.int .i64 tb.p.a, .int .i64 tb.p.b, .int .i64 tb.p.c, .int .i64 tb.p.d, .int .i64 tb.k] := Blk.newb hb
  have hW := below_via hW hb (below1 _ _)
  clear hb
  go_wp2_with fail
  refine (Conj_ok _ t4.out).mono ?_
  rintro e w33 ⟨rfl, hb⟩
  have b_tb2 := b_tb2.via hb (below1 _ _)
  have hW := below_via hW hb (below1 _ _)
  clear hb
  obtain ⟨tb2_0, tb2_1, tb2_2, tb2_3, tb2_4, tb2_5⟩ := (b_tb2.alloc (.cells #[.int .i64 tb.p.a, .int .i64 tb.p.b, .int .i64 tb.p.c, .int .i64 tb.p.d, .int .i64 tb.k] 23)).cells5
  go_wp2_with fail
  refine (HAW _ (ht.via (hW.alloc hW.size _))).mono ?_
  rintro e w34 ⟨rfl, hb⟩
  clear tb2_0 tb2_1 tb2_2 tb2_3 tb2_4 tb2_5
  clear b_tb2
  have hW := below_via hW hb (below1 _ _)
  clear hb
  go_wp2_with fail
  go_ret
  exact ⟨rfl, hW⟩
end Go.Proofs.YtlglmooknlmomaaDoor
end
