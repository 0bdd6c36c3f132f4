import Derived.Test.YtlglmooknlmomaaDoorCDivided0
import Derived.Test.YtlglmooknlmomaaDoorCDivided1
set_option linter.all false
section
namespace Go.Proofs.YtlglmooknlmomaaDoor
open Go.RowKit
attribute [local go_sem] Oper.semAt_some
attribute [local go_sem high] eqNum
set_option maxRecDepth 100000 in
set_option maxHeartbeats 8000000 in
theorem RingDivided_walk (HAW : ∀ w : World, Tabs w → Calls Tryd.prog 15 #[] w fun e w' => e = .returned (.bool true) ∧ Below w.heap.size w w') (a : Option Addr) (n c : Nat) (w : World) (ht : Tabs w) (hB : BytesAt w a n) (ha : a = none → n = 0) (hc : n ≤ c) :
    Calls Tryd.prog 8 #[.slice a n c] w fun e w' => e = .returned (.bool true) ∧ Below w.heap.size w w' := by
  have hW := Below.refl w.heap.size w
  go_enter Tryd.func8, Tryd.ntmps8
  go_wp2_with fail
  refine (store_calls a n c _ hB ha hc).mono ?_
  rintro e w1 ⟨b, rfl, hbl, hS, hb⟩
  have hW := below_via hW hb (Below.refl _ _)
  clear hb
  go_wp2_with fail
  have hS := hS.below (Below.refl _ _)
  refine (num_calls b b _ 12 6 _ hS (by decide) (by decide) (by decide) (by decide) (by decide)).mono ?_
  rintro e w2 ⟨x, rfl, hx, hS, hg⟩
  have hW := (hW.trans (Below.mono (Below.refl _ _) hW.size)).grown hg (by have := hW.size; (try simp); omega) (by intro k hk; injection hk with hk; omega)
  clear hg
  have hbs := hS.lt
  go_wp2_with fail
  have hS := hS.below (Below.refl _ _)
  refine (num_calls b b _ 12 6 _ hS (by decide) (by decide) (by decide) (by decide) (by decide)).mono ?_
  rintro e w3 ⟨y, rfl, hy, hS, hg⟩
  have hW := (hW.trans (Below.mono (Below.refl _ _) hW.size)).grown hg (by have := hW.size; (try simp); omega) (by intro k hk; injection hk with hk; omega)
  clear hg
  have hbs := hS.lt
  have hbw : w.heap.size ≤ b := hbl
  obtain ⟨a1, l1, e1, e2, e3, E⟩ := divided_plain hx hy
  have e1 := Lib.hid e1
  have e2 := Lib.hid e2
  have e3 := Lib.hid e3
  have E := Lib.hid E
  go_wp2_with fail
  refine (Mul_ok _ e1.out).mono ?_
  rintro e w4 ⟨rfl, hb⟩
  have hbs := hS.lt
  have b_x : Blk w4 (w3.heap.size) 23 #[.int .i64 x.p.a, .int .i64 x.p.b, .int .i64 x.p.c, .int .i64 x.p.d, .int .i64 x.k] := Blk.new20 hb
  have n_x : w3.heap.size ≠ b := by omega
  have b_y : Blk w4 (w3.heap.size + 1) 23 #[.int .i64 y.p.a, .int .i64 y.p.b, .int .i64 y.p.c, .int .i64 y.p.d, .int .i64 y.k] := Blk.new21 hb
  have n_y : w3.heap.size + 1 ≠ b := by omega
  have hW := below_via hW hb (below2 _ _ _)
  have hS := StoreAt.via hS hb (below2 _ _ _)
  clear hb
  obtain ⟨x_0, x_1, x_2, x_3, x_4, x_5⟩ := (b_x.alloc (.cells #[.int .i64 a1.p.a, .int .i64 a1.p.b, .int .i64 a1.p.c, .int .i64 a1.p.d, .int .i64 a1.k] 23)).cells5
  go_wp2_with fail
  refine (Least_ok _ e2.out).mono ?_
  rintro e w5 ⟨rfl, hb⟩
  clear x_0 x_1 x_2 x_3 x_4 x_5
  have hbs := hS.lt
  have b_x := b_x.via hb (below1 _ _)
  have b_y := b_y.via hb (below1 _ _)
  have b_a : Blk w5 (w4.heap.size) 23 #[.int .i64 a1.p.a, .int .i64 a1.p.b, .int .i64 a1.p.c, .int .i64 a1.p.d, .int .i64 a1.k] := Blk.newb hb
  have n_a : w4.heap.size ≠ b := by omega
  have hW := below_via hW hb (below1 _ _)
  have hS := StoreAt.via hS hb (below1 _ _)
  clear hb
  go_upto_region 5 with fail
  have b_x := (b_x.alloc (.cells #[.int .i64 l1.p.a, .int .i64 l1.p.b, .int .i64 l1.p.c, .int .i64 l1.p.d, .int .i64 l1.k] 23))
  have b_y := (b_y.alloc (.cells #[.int .i64 l1.p.a, .int .i64 l1.p.b, .int .i64 l1.p.c, .int .i64 l1.p.d, .int .i64 l1.k] 23))
  have b_a := (b_a.alloc (.cells #[.int .i64 l1.p.a, .int .i64 l1.p.b, .int .i64 l1.p.c, .int .i64 l1.p.d, .int .i64 l1.k] 23))
  have b_least : Blk (w5.alloc (.cells #[.int .i64 l1.p.a, .int .i64 l1.p.b, .int .i64 l1.p.c, .int .i64 l1.p.d, .int .i64 l1.k] 23)) (w5.heap.size) 23 #[.int .i64 l1.p.a, .int .i64 l1.p.b, .int .i64 l1.p.c, .int .i64 l1.p.d, .int .i64 l1.k] := Blk.new _ _ _
  have n_least : w5.heap.size ≠ b := by have := hS.lt; omega
  have hW : Below w.heap.size w (w5.alloc (.cells #[.int .i64 l1.p.a, .int .i64 l1.p.b, .int .i64 l1.p.c, .int .i64 l1.p.d, .int .i64 l1.k] 23)) := hW.trans (Below.mono (below1 _ _) hW.size)
  have hS : StoreAt (w5.alloc (.cells #[.int .i64 l1.p.a, .int .i64 l1.p.b, .int .i64 l1.p.c, .int .i64 l1.p.d, .int .i64 l1.k] 23)) b b (0 + 5 + 5) := hS.below (below1 _ _)
  generalize w5.alloc (.cells #[.int .i64 l1.p.a, .int .i64 l1.p.b, .int .i64 l1.p.c, .int .i64 l1.p.d, .int .i64 l1.k] 23) = w6 at b_x b_y b_a b_least hW hS ⊢
  have o_x := b_x
  have b_x := b_x.drew
  have z_x := o_x.lt
  have o_y := b_y
  have b_y := b_y.drew
  have z_y := o_y.lt
  have o_a := b_a
  have b_a := b_a.drew
  have z_a := o_a.lt
  have o_least := b_least
  have b_least := b_least.drew
  have z_least := o_least.lt
  have oW := hW
  have hW := hW.drew
  have zW := oW.size
  have oS := hS
  have hS := hS.below (Below.drew (Below.refl _ _))
  have zS := oS.lt
  have tS := oS.top
  go_cut [10, 11] (fun s10 s11 wx => ∃ N : Nat, s10 = .pointer (some ⟨N, 0, none⟩) ∧ s11 = .int .i64 6 ∧ N ≠ b ∧ Blk wx N 23 #[.int .i64 0, .int .i64 0, .int .i64 0, .int .i64 0, .int .i64 0] ∧ Blk wx (w3.heap.size) 23 #[.int .i64 x.p.a, .int .i64 x.p.b, .int .i64 x.p.c, .int .i64 x.p.d, .int .i64 x.k] ∧ Blk wx (w3.heap.size + 1) 23 #[.int .i64 y.p.a, .int .i64 y.p.b, .int .i64 y.p.c, .int .i64 y.p.d, .int .i64 y.k] ∧ Blk wx (w4.heap.size) 23 #[.int .i64 a1.p.a, .int .i64 a1.p.b, .int .i64 a1.p.c, .int .i64 a1.p.d, .int .i64 a1.k] ∧ Blk wx (w5.heap.size) 23 #[.int .i64 l1.p.a, .int .i64 l1.p.b, .int .i64 l1.p.c, .int .i64 l1.p.d, .int .i64 l1.k] ∧ StoreAt wx b b (0 + 5 + 5 + 1) ∧ Below w.heap.size w wx)
  case first =>
    go_region_held3 (fun w' => w'.cell? ⟨w3.heap.size, 0, none⟩ = some (.int .i64 x.p.a) ∧ w'.cell? ⟨w3.heap.size, 1, none⟩ = some (.int .i64 x.p.b) ∧ w'.cell? ⟨w3.heap.size, 2, none⟩ = some (.int .i64 x.p.c) ∧ w'.cell? ⟨w3.heap.size, 3, none⟩ = some (.int .i64 x.p.d) ∧ w'.cell? ⟨w3.heap.size, 4, none⟩ = some (.int .i64 x.k)) (((with_reducible refine fives1 (t := 23) ?_) <;> (repeat (first | (with_reducible exact b_x) | (with_reducible exact o_x) | ((with_reducible refine Blk.far' ?_ _ ?_); (focus ((try dsimp only); omega))) | (with_reducible refine Blk.alloc ?_ _) | (with_reducible refine Blk.drew ?_)))))
      (first
        | (go_at_call 38; ((with_reducible refine (less_calls b b _ 9 _ (hS.grew (grewOf (by with_unfolding_all first | exact .inl rfl | exact .inr ⟨_, rfl⟩) (by with_unfolding_all rfl) (by with_unfolding_all rfl) (by with_unfolding_all rfl))) (by decide) (by decide) (by decide)).mono ?_); rintro e u1 ⟨v, rfl, hv0, hv1, hT, hg⟩; (first | (have hn := (Blk.grew hn ⟨by first | exact .inl rfl | exact .inr ⟨_, rfl⟩, by rfl, by rfl, by rfl⟩).grown hg (by omega); obtain ⟨n0, n1, n2, n3, n4, nf⟩ := hn.cells5; have zn := hn.lt) | (have hn := (Blk.freshX rfl).grown hg (by omega); obtain ⟨n0, n1, n2, n3, n4, nf⟩ := hn.cells5; have zn := hn.lt) | skip); have b_x := (b_x.grew ⟨by first | exact .inl rfl | exact .inr ⟨_, rfl⟩, by rfl, by rfl, by rfl⟩).grown hg n_x; have z_x := b_x.lt; have b_y := (b_y.grew ⟨by first | exact .inl rfl | exact .inr ⟨_, rfl⟩, by rfl, by rfl, by rfl⟩).grown hg n_y; have z_y := b_y.lt; have b_a := (b_a.grew ⟨by first | exact .inl rfl | exact .inr ⟨_, rfl⟩, by rfl, by rfl, by rfl⟩).grown hg n_a; have z_a := b_a.lt; have b_least := (b_least.grew ⟨by first | exact .inl rfl | exact .inr ⟨_, rfl⟩, by rfl, by rfl, by rfl⟩).grown hg n_least; have z_least := b_least.lt; have hW := below_grown' hW ⟨by first | exact .inl rfl | exact .inr ⟨_, rfl⟩, by rfl, by rfl, by rfl⟩ hg hbw; have zW := hW.size; have hS := hT; have zS := hS.lt; clear hg))
        | (go_at_call 14; ((with_reducible refine (Divide_ok _ (e3.out v hv0 hv1)).mono ?_); rintro e u1 ⟨rfl, hb⟩; (first | (have hn := Blk.step hn hb ⟨by first | exact .inl rfl | exact .inr ⟨_, rfl⟩, by rfl, by rfl, by rfl⟩; obtain ⟨n0, n1, n2, n3, n4, nf⟩ := hn.cells5; have zn := hn.lt) | (have hn := Blk.fresh hb rfl; obtain ⟨n0, n1, n2, n3, n4, nf⟩ := hn.cells5; have zn := hn.lt) | skip); have b_x := b_x.step hb ⟨by first | exact .inl rfl | exact .inr ⟨_, rfl⟩, by rfl, by rfl, by rfl⟩; have z_x := b_x.lt; have b_y := b_y.step hb ⟨by first | exact .inl rfl | exact .inr ⟨_, rfl⟩, by rfl, by rfl, by rfl⟩; have z_y := b_y.lt; have b_a := b_a.step hb ⟨by first | exact .inl rfl | exact .inr ⟨_, rfl⟩, by rfl, by rfl, by rfl⟩; have z_a := b_a.lt; have b_least := b_least.step hb ⟨by first | exact .inl rfl | exact .inr ⟨_, rfl⟩, by rfl, by rfl, by rfl⟩; have z_least := b_least.lt; have hW := below_step hW hb ⟨by first | exact .inl rfl | exact .inr ⟨_, rfl⟩, by rfl, by rfl, by rfl⟩; have zW := hW.size; have hS := (hS.grew ⟨by first | exact .inl rfl | exact .inr ⟨_, rfl⟩, by rfl, by rfl, by rfl⟩).below hb; have zS := hS.lt; clear hb)))
    all_goals go_wp2_with fail
    all_goals go_meet
    all_goals first
      | exact ⟨_, rfl, rfl, by omega, hn.put5, b_x.far5 (by omega) _ _ _ _ _, b_y.far5 (by omega) _ _ _ _ _, b_a.far5 (by omega) _ _ _ _ _, b_least.far5 (by omega) _ _ _ _ _, hS.far5 (by omega) (by omega) _ _ _ _ _, below_put5 hW (by omega) _ _ _ _ _⟩
      | exact ⟨_, rfl, rfl, by omega, Blk.new _ _ _, b_x.alloc _, b_y.alloc _, b_a.alloc _, b_least.alloc _, hS.below (below1 _ _), hW.alloc hW.size _⟩
  case rest =>
    clear b_x o_x z_x b_y o_y z_y b_a o_a z_a b_least o_least z_least oW hW oS hS zS tS zW
    obtain ⟨N7, rfl, rfl, n_none, b_none, b_x, b_y, b_a, b_least, hS, hW⟩ := hcut
    try clear hcut
    clear hS
    obtain ⟨none_0, none_1, none_2, none_3, none_4, none_5⟩ := b_none.cells5
    obtain ⟨y_0, y_1, y_2, y_3, y_4, y_5⟩ := b_y.cells5
    rcases E.out with ⟨f1, f2⟩ | ⟨f1, f2, f3 | ⟨c1, f3, f4⟩⟩
    · have f1 := Lib.hid f1
      have f2 := Lib.hid f2
      go_wp2_with fail
      refine (Same_ok _ f1.out).mono ?_
      rintro e w8 ⟨rfl, hb⟩
      clear none_0 none_1 none_2 none_3 none_4 none_5 y_0 y_1 y_2 y_3 y_4 y_5
      have b_x := b_x.via hb (Below.refl _ _)
      have b_y := b_y.via hb (Below.refl _ _)
      have b_a := b_a.via hb (Below.refl _ _)
      have b_least := b_least.via hb (Below.refl _ _)
      clear b_none
      have hW := below_via hW hb (Below.refl _ _)
      clear hb
      obtain ⟨x_0, x_1, x_2, x_3, x_4, x_5⟩ := b_x.cells5
      obtain ⟨y_0, y_1, y_2, y_3, y_4, y_5⟩ := b_y.cells5
      go_wp2_with fail
      refine (Divide_ok _ f2.out).mono ?_
      rintro e w9 ⟨rfl, hb⟩
      clear x_0 x_1 x_2 x_3 x_4 x_5 y_0 y_1 y_2 y_3 y_4 y_5
      clear b_x
      clear b_y
      clear b_a
      clear b_least
      have hW := below_via hW hb (Below.refl _ _)
      clear hb
      go_wp2_with fail
      refine (HAW _ (ht.via (hW.alloc hW.size _))).mono ?_
      rintro e w10 ⟨rfl, hb⟩
      have hW := below_via hW hb (below1 _ _)
      clear hb
      go_wp2_with fail
      go_ret
      exact ⟨rfl, hW⟩
    · have f1 := Lib.hid f1
      have f2 := Lib.hid f2
      have f3 := Lib.hid f3
      go_wp2_with fail
      refine (Same_ok _ f1.out).mono ?_
      rintro e w8 ⟨rfl, hb⟩
      clear none_0 none_1 none_2 none_3 none_4 none_5 y_0 y_1 y_2 y_3 y_4 y_5
      have b_x := b_x.via hb (Below.refl _ _)
      have b_y := b_y.via hb (Below.refl _ _)
      have b_a := b_a.via hb (Below.refl _ _)
      have b_least := b_least.via hb (Below.refl _ _)
      clear b_none
      have hW := below_via hW hb (Below.refl _ _)
      clear hb
      obtain ⟨a_0, a_1, a_2, a_3, a_4, a_5⟩ := b_a.cells5
      obtain ⟨y_0, y_1, y_2, y_3, y_4, y_5⟩ := b_y.cells5
      go_wp2_with fail
      refine (Divide_ok _ f2.out).mono ?_
      rintro e w9 ⟨rfl, hb⟩
      clear a_0 a_1 a_2 a_3 a_4 a_5 y_0 y_1 y_2 y_3 y_4 y_5
      have b_x := b_x.via hb (Below.refl _ _)
      have b_y := b_y.via hb (Below.refl _ _)
      clear b_a
      have b_least := b_least.via hb (Below.refl _ _)
      have hW := below_via hW hb (Below.refl _ _)
      clear hb
      obtain ⟨least_0, least_1, least_2, least_3, least_4, least_5⟩ := (b_least.alloc (.cells #[.int .i64 l1.p.a, .int .i64 l1.p.b, .int .i64 l1.p.c, .int .i64 l1.p.d, .int .i64 l1.k] 23)).cells5
      obtain ⟨x_0, x_1, x_2, x_3, x_4, x_5⟩ := (b_x.alloc (.cells #[.int .i64 l1.p.a, .int .i64 l1.p.b, .int .i64 l1.p.c, .int .i64 l1.p.d, .int .i64 l1.k] 23)).cells5
      obtain ⟨y_0, y_1, y_2, y_3, y_4, y_5⟩ := (b_y.alloc (.cells #[.int .i64 l1.p.a, .int .i64 l1.p.b, .int .i64 l1.p.c, .int .i64 l1.p.d, .int .i64 l1.k] 23)).cells5
      go_wp2_with fail
      refine (Divide_ok _ f3.out).mono ?_
      rintro e w10 ⟨rfl, hb⟩
      clear least_0 least_1 least_2 least_3 least_4 least_5 x_0 x_1 x_2 x_3 x_4 x_5 y_0 y_1 y_2 y_3 y_4 y_5
      clear b_x
      clear b_y
      clear b_least
      have hW := below_via hW hb (below1 _ _)
      clear hb
      go_wp2_with fail
      refine (HAW _ (ht.via (hW.alloc hW.size _))).mono ?_
      rintro e w11 ⟨rfl, hb⟩
      have hW := below_via hW hb (below1 _ _)
      clear hb
      go_wp2_with fail
      go_ret
      exact ⟨rfl, hW⟩
    · have f1 := Lib.hid f1
      have f2 := Lib.hid f2
      have f3 := Lib.hid f3
      have f4 := Lib.hid f4
      go_wp2_with fail
      refine (Same_ok _ f1.out).mono ?_
      rintro e w8 ⟨rfl, hb⟩
      clear none_0 none_1 none_2 none_3 none_4 none_5 y_0 y_1 y_2 y_3 y_4 y_5
      have b_x := b_x.via hb (Below.refl _ _)
      have b_y := b_y.via hb (Below.refl _ _)
      have b_a := b_a.via hb (Below.refl _ _)
      have b_least := b_least.via hb (Below.refl _ _)
      clear b_none
      have hW := below_via hW hb (Below.refl _ _)
      clear hb
      obtain ⟨a_0, a_1, a_2, a_3, a_4, a_5⟩ := b_a.cells5
      obtain ⟨y_0, y_1, y_2, y_3, y_4, y_5⟩ := b_y.cells5
      go_wp2_with fail
      refine (Divide_ok _ f2.out).mono ?_
      rintro e w9 ⟨rfl, hb⟩
      clear a_0 a_1 a_2 a_3 a_4 a_5 y_0 y_1 y_2 y_3 y_4 y_5
      have b_x := b_x.via hb (Below.refl _ _)
      have b_y := b_y.via hb (Below.refl _ _)
      clear b_a
      have b_least := b_least.via hb (Below.refl _ _)
      have hW := below_via hW hb (Below.refl _ _)
      clear hb
      obtain ⟨least_0, least_1, least_2, least_3, least_4, least_5⟩ := (b_least.alloc (.cells #[.int .i64 l1.p.a, .int .i64 l1.p.b, .int .i64 l1.p.c, .int .i64 l1.p.d, .int .i64 l1.k] 23)).cells5
      obtain ⟨x_0, x_1, x_2, x_3, x_4, x_5⟩ := (b_x.alloc (.cells #[.int .i64 l1.p.a, .int .i64 l1.p.b, .int .i64 l1.p.c, .int .i64 l1.p.d, .int .i64 l1.k] 23)).cells5
      obtain ⟨y_0, y_1, y_2, y_3, y_4, y_5⟩ := (b_y.alloc (.cells #[.int .i64 l1.p.a, .int .i64 l1.p.b, .int .i64 l1.p.c, .int .i64 l1.p.d, .int .i64 l1.k] 23)).cells5
      go_wp2_with fail
      refine (Divide_ok _ f3.out).mono ?_
      rintro e w10 ⟨rfl, hb⟩
      clear least_0 least_1 least_2 least_3 least_4 least_5 x_0 x_1 x_2 x_3 x_4 x_5 y_0 y_1 y_2 y_3 y_4 y_5
      clear b_x
      have b_y := b_y.via hb (below1 _ _)
      have b_least := b_least.via hb (below1 _ _)
      have hW := below_via hW hb (below1 _ _)
      clear hb
      obtain ⟨y_0, y_1, y_2, y_3, y_4, y_5⟩ := (b_y.alloc (.cells #[.int .i64 c1.p.a, .int .i64 c1.p.b, .int .i64 c1.p.c, .int .i64 c1.p.d, .int .i64 c1.k] 23)).cells5
      go_wp2_with fail
      refine (Mul_ok _ f4.out).mono ?_
      rintro e w11 ⟨rfl, hb⟩
      clear y_0 y_1 y_2 y_3 y_4 y_5
      clear b_y
      have b_least := b_least.via hb (below1 _ _)
      have hW := below_via hW hb (below1 _ _)
      clear hb
      obtain ⟨least_0, least_1, least_2, least_3, least_4, least_5⟩ := (b_least.alloc (.cells #[.int .i64 l1.p.a, .int .i64 l1.p.b, .int .i64 l1.p.c, .int .i64 l1.p.d, .int .i64 l1.k] 23)).cells5
      go_wp2_with fail
      refine (HAW _ (ht.via (hW.alloc hW.size _))).mono ?_
      rintro e w12 ⟨rfl, hb⟩
      clear least_0 least_1 least_2 least_3 least_4 least_5
      clear b_least
      have hW := below_via hW hb (below1 _ _)
      clear hb
      go_wp2_with fail
      go_ret
      exact ⟨rfl, hW⟩
end Go.Proofs.YtlglmooknlmomaaDoor
end
