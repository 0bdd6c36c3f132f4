import Derived.Test.YtlglmooknlmomaaDoorC18
import Derived.Test.YtlglmooknlmomaaDoorC9
set_option linter.all false
section
namespace Go.Proofs.YtlglmooknlmomaaDoor
open Go.RowKit
attribute [local go_sem] Oper.semAt_some
attribute [local go_sem high] eqNum
set_option maxRecDepth 100000 in
set_option maxHeartbeats 8000000 in
theorem RingNormed_walk (HAW : ∀ w : World, Tabs w → Calls Tryd.prog 15 #[] w fun e w' => e = .returned (.bool true) ∧ Below w.heap.size w w') (a : Option Addr) (n c : Nat) (m : Int) (w : World) (ht : Tabs w) (hB : BytesAt w a n) (ha : a = none → n = 0) (hc : n ≤ c) :
    Calls Tryd.prog 7 #[.slice a n c, .int .i64 m] w fun e w' => e = .returned (.bool true) ∧ Below w.heap.size w w' := by
  have hW := Below.refl w.heap.size w
  go_enter Tryd.func7, Tryd.ntmps7
  go_wp2_with fail
  refine (store_calls a n c _ hB ha hc).mono ?_
  rintro e w1 ⟨b, rfl, hbl, hS, hb⟩
  have hW := below_via hW hb (Below.refl _ _)
  clear hb
  go_wp2_with fail
  have hS := hS.below (Below.refl _ _)
  refine (num_calls b b _ 60 8 _ hS (by decide) (by decide) (by decide) (by decide) (by decide)).mono ?_
  rintro e w2 ⟨x, rfl, hx, hS, hg⟩
  have hW := (hW.trans (Below.mono (Below.refl _ _) hW.size)).grown hg (by have := hW.size; (try simp); omega) (by intro k hk; injection hk with hk; omega)
  clear hg
  have hbs := hS.lt
  go_wp2_with fail
  have hS := hS.below (Below.refl _ _)
  refine (num_calls b b _ 60 8 _ hS (by decide) (by decide) (by decide) (by decide) (by decide)).mono ?_
  rintro e w3 ⟨y, rfl, hy, hS, hg⟩
  have hW := (hW.trans (Below.mono (Below.refl _ _) hW.size)).grown hg (by have := hW.size; (try simp); omega) (by intro k hk; injection hk with hk; omega)
  clear hg
  have hbs := hS.lt
  obtain ⟨i, hi⟩ := fin8 m
  obtain ⟨a1, b1, c1, d1, l1, e1, e2, e3, e4, e5, e6, e7, e8, e9, e10⟩ := normed_plain hx hy i
  have e1 := Lib.hid e1
  have e2 := Lib.hid e2
  have e3 := Lib.hid e3
  have e4 := Lib.hid e4
  have e5 := Lib.hid e5
  have e6 := Lib.hid e6
  have e7 := Lib.hid e7
  have e8 := Lib.hid e8
  have e9 := Lib.hid e9
  have e10 := Lib.hid e10
  go_wp2_with fail
  refine (Norm_ok _ e1.out).mono ?_
  rintro e w4 ⟨rfl, hb⟩
  have b_x : Blk w4 (w3.heap.size) 23 #[.int .i64 x.p.a, .int .i64 x.p.b, .int .i64 x.p.c, .int .i64 x.p.d, .int .i64 x.k] := Blk.new20 hb
  have b_y : Blk w4 (w3.heap.size + 1) 23 #[.int .i64 y.p.a, .int .i64 y.p.b, .int .i64 y.p.c, .int .i64 y.p.d, .int .i64 y.k] := Blk.new21 hb
  have hW := below_via hW hb (below2 _ _ _)
  have hS := StoreAt.via hS hb (below2 _ _ _)
  clear hb
  obtain ⟨y_0, y_1, y_2, y_3, y_4, y_5⟩ := (b_y.alloc (.cells #[.int .i64 a1.p.a, .int .i64 a1.p.b, .int .i64 a1.p.c, .int .i64 a1.p.d, .int .i64 a1.k] 23)).cells5
  go_wp2_with fail
  refine (Norm_ok _ e2.out).mono ?_
  rintro e w5 ⟨rfl, hb⟩
  clear y_0 y_1 y_2 y_3 y_4 y_5
  have b_x := b_x.via hb (below1 _ _)
  have b_y := b_y.via hb (below1 _ _)
  have b_a : Blk w5 (w4.heap.size) 23 #[.int .i64 a1.p.a, .int .i64 a1.p.b, .int .i64 a1.p.c, .int .i64 a1.p.d, .int .i64 a1.k] := Blk.newb hb
  have hW := below_via hW hb (below1 _ _)
  have hS := StoreAt.via hS hb (below1 _ _)
  clear hb
  obtain ⟨x_0, x_1, x_2, x_3, x_4, x_5⟩ := (b_x.alloc (.cells #[.int .i64 b1.p.a, .int .i64 b1.p.b, .int .i64 b1.p.c, .int .i64 b1.p.d, .int .i64 b1.k] 23)).cells5
  obtain ⟨y_0, y_1, y_2, y_3, y_4, y_5⟩ := (b_y.alloc (.cells #[.int .i64 b1.p.a, .int .i64 b1.p.b, .int .i64 b1.p.c, .int .i64 b1.p.d, .int .i64 b1.k] 23)).cells5
  go_wp2_with fail
  refine (Mul_ok _ e3.out).mono ?_
  rintro e w6 ⟨rfl, hb⟩
  clear x_0 x_1 x_2 x_3 x_4 x_5 y_0 y_1 y_2 y_3 y_4 y_5
  have b_x := b_x.via hb (below1 _ _)
  clear b_y
  have b_a := b_a.via hb (below1 _ _)
  have b_b : Blk w6 (w5.heap.size) 23 #[.int .i64 b1.p.a, .int .i64 b1.p.b, .int .i64 b1.p.c, .int .i64 b1.p.d, .int .i64 b1.k] := Blk.newb hb
  have hW := below_via hW hb (below1 _ _)
  have hS := StoreAt.via hS hb (below1 _ _)
  clear hb
  go_wp2_with fail
  refine (Norm_ok _ e4.out).mono ?_
  rintro e w7 ⟨rfl, hb⟩
  have b_x := b_x.via hb (below1 _ _)
  have b_a := b_a.via hb (below1 _ _)
  have b_b := b_b.via hb (below1 _ _)
  have hW := below_via hW hb (below1 _ _)
  have hS := StoreAt.via hS hb (below1 _ _)
  clear hb
  obtain ⟨a_0, a_1, a_2, a_3, a_4, a_5⟩ := (b_a.alloc (.cells #[.int .i64 d1.p.a, .int .i64 d1.p.b, .int .i64 d1.p.c, .int .i64 d1.p.d, .int .i64 d1.k] 23)).cells5
  obtain ⟨b_0, b_1, b_2, b_3, b_4, b_5⟩ := (b_b.alloc (.cells #[.int .i64 d1.p.a, .int .i64 d1.p.b, .int .i64 d1.p.c, .int .i64 d1.p.d, .int .i64 d1.k] 23)).cells5
  go_wp2_with fail
  refine (Mul_ok _ e5.out).mono ?_
  rintro e w8 ⟨rfl, hb⟩
  clear a_0 a_1 a_2 a_3 a_4 a_5 b_0 b_1 b_2 b_3 b_4 b_5
  have b_x := b_x.via hb (below1 _ _)
  have b_a := b_a.via hb (below1 _ _)
  clear b_b
  have b_d : Blk w8 (w7.heap.size) 23 #[.int .i64 d1.p.a, .int .i64 d1.p.b, .int .i64 d1.p.c, .int .i64 d1.p.d, .int .i64 d1.k] := Blk.newb hb
  have hW := below_via hW hb (below1 _ _)
  have hS := StoreAt.via hS hb (below1 _ _)
  clear hb
  obtain ⟨a_0, a_1, a_2, a_3, a_4, a_5⟩ := (b_a.alloc (.cells #[.int .i64 d1.p.a, .int .i64 d1.p.b, .int .i64 d1.p.c, .int .i64 d1.p.d, .int .i64 d1.k] 23)).cells5
  go_wp2_with fail
  refine (Real_ok _ e6.out).mono ?_
  rintro e w9 ⟨rfl, hb⟩
  clear a_0 a_1 a_2 a_3 a_4 a_5
  have b_x := b_x.via hb (below1 _ _)
  have b_a := b_a.via hb (below1 _ _)
  have b_d := b_d.via hb (below1 _ _)
  have b_both : Blk w9 (w8.heap.size) 23 #[.int .i64 d1.p.a, .int .i64 d1.p.b, .int .i64 d1.p.c, .int .i64 d1.p.d, .int .i64 d1.k] := Blk.newb hb
  have hW := below_via hW hb (below1 _ _)
  have hS := StoreAt.via hS hb (below1 _ _)
  clear hb
  obtain ⟨a_0, a_1, a_2, a_3, a_4, a_5⟩ := b_a.cells5
  go_wp2_with fail
  refine (Less_ok _ e7.out).mono ?_
  rintro e w10 ⟨rfl, hb⟩
  clear a_0 a_1 a_2 a_3 a_4 a_5
  have b_x := b_x.via hb (Below.refl _ _)
  have b_a := b_a.via hb (Below.refl _ _)
  have b_d := b_d.via hb (Below.refl _ _)
  have b_both := b_both.via hb (Below.refl _ _)
  have hW := below_via hW hb (Below.refl _ _)
  have hS := StoreAt.via hS hb (Below.refl _ _)
  clear hb
  go_wp2_with fail
  refine (omega_ok m i hi _).mono ?_
  rintro e w11 ⟨rfl, hb⟩
  have b_x := b_x.via hb (Below.refl _ _)
  have b_a := b_a.via hb (Below.refl _ _)
  have b_d := b_d.via hb (Below.refl _ _)
  have b_both := b_both.via hb (Below.refl _ _)
  have hW := below_via hW hb (Below.refl _ _)
  have hS := StoreAt.via hS hb (Below.refl _ _)
  clear hb
  go_wp2_with fail
  refine (Norm_ok _ e8.out).mono ?_
  rintro e w12 ⟨rfl, hb⟩
  have b_x := b_x.via hb (Below.refl _ _)
  have b_a := b_a.via hb (Below.refl _ _)
  have b_d := b_d.via hb (Below.refl _ _)
  have b_both := b_both.via hb (Below.refl _ _)
  have hW := below_via hW hb (Below.refl _ _)
  have hS := StoreAt.via hS hb (Below.refl _ _)
  clear hb
  go_upto_region 11 with fail
  have b_x := b_x.alloc (.cells #[.int .i64 1, .int .i64 0, .int .i64 0, .int .i64 0, .int .i64 0] 23)
  have b_a := b_a.alloc (.cells #[.int .i64 1, .int .i64 0, .int .i64 0, .int .i64 0, .int .i64 0] 23)
  have b_d := b_d.alloc (.cells #[.int .i64 1, .int .i64 0, .int .i64 0, .int .i64 0, .int .i64 0] 23)
  have b_both := b_both.alloc (.cells #[.int .i64 1, .int .i64 0, .int .i64 0, .int .i64 0, .int .i64 0] 23)
  have b_one : Blk (w12.alloc (.cells #[.int .i64 1, .int .i64 0, .int .i64 0, .int .i64 0, .int .i64 0] 23)) (w12.heap.size) 23 #[.int .i64 1, .int .i64 0, .int .i64 0, .int .i64 0, .int .i64 0] := Blk.new _ _ _
  have hW := hW.alloc hW.size (.cells #[.int .i64 1, .int .i64 0, .int .i64 0, .int .i64 0, .int .i64 0] 23)
  have hS := hS.below (below1 _ (.cells #[.int .i64 1, .int .i64 0, .int .i64 0, .int .i64 0, .int .i64 0] 23))
  generalize w12.alloc (.cells #[.int .i64 1, .int .i64 0, .int .i64 0, .int .i64 0, .int .i64 0] 23) = w13 at b_x b_a b_d b_both b_one hW hS ⊢
  have b_x := b_x.drew
  have b_a := b_a.drew
  have b_d := b_d.drew
  have b_both := b_both.drew
  have b_one := b_one.drew
  have hW := hW.drew
  have hS := hS.below (Below.drew (Below.refl _ _))
  go_region_held3 (fun w' => w'.cell? ⟨w7.heap.size, 0, none⟩ = some (.int .i64 d1.p.a) ∧ w'.cell? ⟨w7.heap.size, 1, none⟩ = some (.int .i64 d1.p.b) ∧ w'.cell? ⟨w7.heap.size, 2, none⟩ = some (.int .i64 d1.p.c) ∧ w'.cell? ⟨w7.heap.size, 3, none⟩ = some (.int .i64 d1.p.d) ∧ w'.cell? ⟨w7.heap.size, 4, none⟩ = some (.int .i64 d1.k) ∧ w'.cell? ⟨w8.heap.size, 0, none⟩ = some (.int .i64 d1.p.a) ∧ w'.cell? ⟨w8.heap.size, 1, none⟩ = some (.int .i64 d1.p.b) ∧ w'.cell? ⟨w8.heap.size, 2, none⟩ = some (.int .i64 d1.p.c) ∧ w'.cell? ⟨w8.heap.size, 3, none⟩ = some (.int .i64 d1.p.d) ∧ w'.cell? ⟨w8.heap.size, 4, none⟩ = some (.int .i64 d1.k) ∧ w'.cell? ⟨w12.heap.size, 0, none⟩ = some (.int .i64 1) ∧ w'.cell? ⟨w12.heap.size, 1, none⟩ = some (.int .i64 0) ∧ w'.cell? ⟨w12.heap.size, 2, none⟩ = some (.int .i64 0) ∧ w'.cell? ⟨w12.heap.size, 3, none⟩ = some (.int .i64 0) ∧ w'.cell? ⟨w12.heap.size, 4, none⟩ = some (.int .i64 0)) (with_reducible exact fives3 b_d b_both b_one)
    (first
      | (go_at_call 37; ((with_reducible refine (num5 _ _ _ _ _ _).mono ?_); rintro e w14 ⟨rfl, hb⟩; have hW := below_via hW hb (Below.refl _ _); have hS := StoreAt.via hS hb (Below.refl _ _); have b_x := b_x.via hb (Below.refl _ _); have b_a := b_a.via hb (Below.refl _ _); have b_d := b_d.via hb (Below.refl _ _); have b_both := b_both.via hb (Below.refl _ _); have b_one := b_one.via hb (Below.refl _ _); clear hb)))
  obtain ⟨x_0, x_1, x_2, x_3, x_4, x_5⟩ := b_x.cells5
  go_wp2_with fail
  refine (Least_ok _ e9.out).mono ?_
  rintro e w15 ⟨rfl, hb⟩
  clear x_0 x_1 x_2 x_3 x_4 x_5
  clear b_x
  have b_a := b_a.via hb (Below.refl _ _)
  clear b_d
  clear b_both
  clear b_one
  have hW := below_via hW hb (Below.refl _ _)
  have hS := StoreAt.via hS hb (Below.refl _ _)
  clear hb
  obtain ⟨v, q0, q1⟩ := z_same e10.out
  go_upto_region 14 with fail
  have b_a := b_a.alloc (.cells #[.int .i64 l1.p.a, .int .i64 l1.p.b, .int .i64 l1.p.c, .int .i64 l1.p.d, .int .i64 l1.k] 23)
  have b_l : Blk (w15.alloc (.cells #[.int .i64 l1.p.a, .int .i64 l1.p.b, .int .i64 l1.p.c, .int .i64 l1.p.d, .int .i64 l1.k] 23)) (w15.heap.size) 23 #[.int .i64 l1.p.a, .int .i64 l1.p.b, .int .i64 l1.p.c, .int .i64 l1.p.d, .int .i64 l1.k] := Blk.new _ _ _
  have hW := hW.alloc hW.size (.cells #[.int .i64 l1.p.a, .int .i64 l1.p.b, .int .i64 l1.p.c, .int .i64 l1.p.d, .int .i64 l1.k] 23)
  have hS := hS.below (below1 _ (.cells #[.int .i64 l1.p.a, .int .i64 l1.p.b, .int .i64 l1.p.c, .int .i64 l1.p.d, .int .i64 l1.k] 23))
  generalize w15.alloc (.cells #[.int .i64 l1.p.a, .int .i64 l1.p.b, .int .i64 l1.p.c, .int .i64 l1.p.d, .int .i64 l1.k] 23) = w16 at b_a b_l hW hS ⊢
  have b_a := b_a.drew
  have b_l := b_l.drew
  have hW := hW.drew
  have hS := hS.below (Below.drew (Below.refl _ _))
  go_region_held3 (fun w' => w'.cell? ⟨w4.heap.size, 0, none⟩ = some (.int .i64 a1.p.a) ∧ w'.cell? ⟨w4.heap.size, 1, none⟩ = some (.int .i64 a1.p.b) ∧ w'.cell? ⟨w4.heap.size, 2, none⟩ = some (.int .i64 a1.p.c) ∧ w'.cell? ⟨w4.heap.size, 3, none⟩ = some (.int .i64 a1.p.d) ∧ w'.cell? ⟨w4.heap.size, 4, none⟩ = some (.int .i64 a1.k) ∧ w'.cell? ⟨w15.heap.size, 0, none⟩ = some (.int .i64 l1.p.a) ∧ w'.cell? ⟨w15.heap.size, 1, none⟩ = some (.int .i64 l1.p.b) ∧ w'.cell? ⟨w15.heap.size, 2, none⟩ = some (.int .i64 l1.p.c) ∧ w'.cell? ⟨w15.heap.size, 3, none⟩ = some (.int .i64 l1.p.d) ∧ w'.cell? ⟨w15.heap.size, 4, none⟩ = some (.int .i64 l1.k)) (with_reducible exact fives2 b_a b_l)
    (first
      | (go_at_call 15; ((with_reducible refine (HAW _ (ht.via hW)).mono ?_); rintro e w17 ⟨rfl, hb⟩; have hW := below_via hW hb (Below.refl _ _); have hS := StoreAt.via hS hb (Below.refl _ _); have b_a := b_a.via hb (Below.refl _ _); have b_l := b_l.via hb (Below.refl _ _); clear hb)))
  go_wp2_with fail
  go_ret
  exact ⟨rfl, hW⟩
end Go.Proofs.YtlglmooknlmomaaDoor
end
