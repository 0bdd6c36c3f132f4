import Derived.Test.YtlglmooknlmomaaDoorCPhased0
import Derived.Test.YtlglmooknlmomaaDoorCPhased1
set_option linter.all false
section
namespace Go.Proofs.YtlglmooknlmomaaDoor
open Go.RowKit
attribute [local go_sem] Oper.semAt_some
attribute [local go_sem high] eqNum
set_option maxRecDepth 100000 in
set_option maxHeartbeats 8000000 in
theorem RingPhased_walk (HAW : ∀ w : World, Tabs w → Calls Tryd.prog 15 #[] w fun e w' => e = .returned (.bool true) ∧ Below w.heap.size w w') (a : Option Addr) (n c : Nat) (m : Int) (w : World) (ht : Tabs w) (hB : BytesAt w a n) (ha : a = none → n = 0) (hc : n ≤ c) :
    Calls Tryd.prog 10 #[.slice a n c, .int .i64 m] w fun e w' => e = .returned (.bool true) ∧ Below w.heap.size w w' := by
  have hW := Below.refl w.heap.size w
  go_enter Tryd.func10, Tryd.ntmps10
  go_wp2_with fail
  refine (store_calls a n c _ hB ha hc).mono ?_
  rintro e w1 ⟨b, rfl, hbl, hS, hb⟩
  have hW := below_via hW hb (Below.refl _ _)
  clear hb
  go_wp2_with fail
  have hS := hS.below (Below.refl _ _)
  refine (num_calls b b _ 60 8 _ hS (by decide) (by decide) (by decide) (by decide) (by decide)).mono ?_
  rintro e w2 ⟨x, rfl, hx, hS, hg⟩
  have hW := (hW.trans (Below.mono (Below.refl _ _) hW.size)).grown hg (by have := hW.size; (try simp); omega) (by intro k hk; injection hk with hk; omega)
  clear hg
  have hbs := hS.lt
  go_wp2_with fail
  have hS := hS.below (Below.refl _ _)
  refine (num_calls b b _ 2 2 _ hS (by decide) (by decide) (by decide) (by decide) (by decide)).mono ?_
  rintro e w3 ⟨y, rfl, hy, hS, hg⟩
  have hW := (hW.trans (Below.mono (Below.refl _ _) hW.size)).grown hg (by have := hW.size; (try simp); omega) (by intro k hk; injection hk with hk; omega)
  clear hg
  have hbs := hS.lt
  have hbw : w.heap.size ≤ b := hbl
  obtain ⟨i, hi⟩ := fin8 m
  obtain ⟨a1, k1, z1, e1, e2, e3, e4⟩ := phase_mul hx i
  have e1 := Lib.hid e1
  have e2 := Lib.hid e2
  have e3 := Lib.hid e3
  have e4 := Lib.hid e4
  go_upto_region 3 with fail
  have b_x : Blk ((w3.alloc (.cells #[.int .i64 x.p.a, .int .i64 x.p.b, .int .i64 x.p.c, .int .i64 x.p.d, .int .i64 x.k] 23)).alloc (.cells #[.int .i64 y.p.a, .int .i64 y.p.b, .int .i64 y.p.c, .int .i64 y.p.d, .int .i64 y.k] 23)) (w3.heap.size) 23 #[.int .i64 x.p.a, .int .i64 x.p.b, .int .i64 x.p.c, .int .i64 x.p.d, .int .i64 x.k] := (Blk.new _ _ _).alloc _
  have n_x : w3.heap.size ≠ b := by have := hS.lt; omega
  have b_y : Blk ((w3.alloc (.cells #[.int .i64 x.p.a, .int .i64 x.p.b, .int .i64 x.p.c, .int .i64 x.p.d, .int .i64 x.k] 23)).alloc (.cells #[.int .i64 y.p.a, .int .i64 y.p.b, .int .i64 y.p.c, .int .i64 y.p.d, .int .i64 y.k] 23)) (w3.heap.size + 1) 23 #[.int .i64 y.p.a, .int .i64 y.p.b, .int .i64 y.p.c, .int .i64 y.p.d, .int .i64 y.k] := Blk.at_ _ _ _ (World.size_alloc _ _)
  have n_y : w3.heap.size + 1 ≠ b := by have := hS.lt; omega
  have hW : Below w.heap.size w ((w3.alloc (.cells #[.int .i64 x.p.a, .int .i64 x.p.b, .int .i64 x.p.c, .int .i64 x.p.d, .int .i64 x.k] 23)).alloc (.cells #[.int .i64 y.p.a, .int .i64 y.p.b, .int .i64 y.p.c, .int .i64 y.p.d, .int .i64 y.k] 23)) := hW.trans (Below.mono (below2 _ _ _) hW.size)
  have hS : StoreAt ((w3.alloc (.cells #[.int .i64 x.p.a, .int .i64 x.p.b, .int .i64 x.p.c, .int .i64 x.p.d, .int .i64 x.k] 23)).alloc (.cells #[.int .i64 y.p.a, .int .i64 y.p.b, .int .i64 y.p.c, .int .i64 y.p.d, .int .i64 y.k] 23)) b b (0 + 5 + 5) := hS.below (below2 _ _ _)
  generalize (w3.alloc (.cells #[.int .i64 x.p.a, .int .i64 x.p.b, .int .i64 x.p.c, .int .i64 x.p.d, .int .i64 x.k] 23)).alloc (.cells #[.int .i64 y.p.a, .int .i64 y.p.b, .int .i64 y.p.c, .int .i64 y.p.d, .int .i64 y.k] 23) = w4 at b_x b_y hW hS ⊢
  have o_x := b_x
  have b_x := b_x.drew
  have z_x := o_x.lt
  have o_y := b_y
  have b_y := b_y.drew
  have z_y := o_y.lt
  have oW := hW
  have hW := hW.drew
  have zW := oW.size
  have oS := hS
  have hS := hS.below (Below.drew (Below.refl _ _))
  have zS := oS.lt
  have tS := oS.top
  go_cut [8, 9] (fun s8 s9 wx => ∃ N : Nat, s8 = .pointer (some ⟨N, 0, none⟩) ∧ s9 = .int .i64 0 ∧ N ≠ b ∧ Blk wx N 23 #[.int .i64 a1.p.a, .int .i64 a1.p.b, .int .i64 a1.p.c, .int .i64 a1.p.d, .int .i64 a1.k] ∧ Blk wx (w3.heap.size) 23 #[.int .i64 x.p.a, .int .i64 x.p.b, .int .i64 x.p.c, .int .i64 x.p.d, .int .i64 x.k] ∧ Blk wx (w3.heap.size + 1) 23 #[.int .i64 y.p.a, .int .i64 y.p.b, .int .i64 y.p.c, .int .i64 y.p.d, .int .i64 y.k] ∧ StoreAt wx b b (0 + 5 + 5) ∧ Below w.heap.size w wx)
  case first =>
    go_region_held3 (fun w' => w'.cell? ⟨w3.heap.size, 0, none⟩ = some (.int .i64 x.p.a) ∧ w'.cell? ⟨w3.heap.size, 1, none⟩ = some (.int .i64 x.p.b) ∧ w'.cell? ⟨w3.heap.size, 2, none⟩ = some (.int .i64 x.p.c) ∧ w'.cell? ⟨w3.heap.size, 3, none⟩ = some (.int .i64 x.p.d) ∧ w'.cell? ⟨w3.heap.size, 4, none⟩ = some (.int .i64 x.k)) (((with_reducible refine fives1 (t := 23) ?_) <;> (repeat (first | (with_reducible exact b_x) | (with_reducible exact o_x) | ((with_reducible refine Blk.far' ?_ _ ?_); (focus ((try dsimp only); omega))) | (with_reducible refine Blk.alloc ?_ _) | (with_reducible refine Blk.drew ?_)))))
      (first
        | (go_at_call 36; ((with_reducible refine (omega_ok m i hi _).mono ?_); rintro e u1 ⟨rfl, hb⟩; (first | (have hn := Blk.step hn hb ⟨by first | exact .inl rfl | exact .inr ⟨_, rfl⟩, by rfl, by rfl, by rfl⟩; obtain ⟨n0, n1, n2, n3, n4, nf⟩ := hn.cells5; have zn := hn.lt) | (have hn := Blk.fresh hb rfl; obtain ⟨n0, n1, n2, n3, n4, nf⟩ := hn.cells5; have zn := hn.lt) | skip); have b_x := b_x.step hb ⟨by first | exact .inl rfl | exact .inr ⟨_, rfl⟩, by rfl, by rfl, by rfl⟩; have z_x := b_x.lt; have b_y := b_y.step hb ⟨by first | exact .inl rfl | exact .inr ⟨_, rfl⟩, by rfl, by rfl, by rfl⟩; have z_y := b_y.lt; have hW := below_step hW hb ⟨by first | exact .inl rfl | exact .inr ⟨_, rfl⟩, by rfl, by rfl, by rfl⟩; have zW := hW.size; have hS := (hS.grew ⟨by first | exact .inl rfl | exact .inr ⟨_, rfl⟩, by rfl, by rfl, by rfl⟩).below hb; have zS := hS.lt; clear hb))
        | (go_at_call 31; ((with_reducible refine (Mul_ok _ e1.out).mono ?_); rintro e u1 ⟨rfl, hb⟩; (first | (have hn := Blk.step hn hb ⟨by first | exact .inl rfl | exact .inr ⟨_, rfl⟩, by rfl, by rfl, by rfl⟩; obtain ⟨n0, n1, n2, n3, n4, nf⟩ := hn.cells5; have zn := hn.lt) | (have hn := Blk.fresh hb rfl; obtain ⟨n0, n1, n2, n3, n4, nf⟩ := hn.cells5; have zn := hn.lt) | skip); have b_x := b_x.step hb ⟨by first | exact .inl rfl | exact .inr ⟨_, rfl⟩, by rfl, by rfl, by rfl⟩; have z_x := b_x.lt; have b_y := b_y.step hb ⟨by first | exact .inl rfl | exact .inr ⟨_, rfl⟩, by rfl, by rfl, by rfl⟩; have z_y := b_y.lt; have hW := below_step hW hb ⟨by first | exact .inl rfl | exact .inr ⟨_, rfl⟩, by rfl, by rfl, by rfl⟩; have zW := hW.size; have hS := (hS.grew ⟨by first | exact .inl rfl | exact .inr ⟨_, rfl⟩, by rfl, by rfl, by rfl⟩).below hb; have zS := hS.lt; clear hb)))
    all_goals go_wp2_with fail
    all_goals go_meet
    all_goals first
      | exact ⟨_, rfl, rfl, by omega, hn.put5, b_x.far5 (by omega) _ _ _ _ _, b_y.far5 (by omega) _ _ _ _ _, hS.far5 (by omega) (by omega) _ _ _ _ _, below_put5 hW (by omega) _ _ _ _ _⟩
      | exact ⟨_, rfl, rfl, by omega, Blk.new _ _ _, b_x.alloc _, b_y.alloc _, hS.below (below1 _ _), hW.alloc hW.size _⟩
  case rest =>
    clear b_x o_x z_x b_y o_y z_y oW hW oS hS zS tS zW
    obtain ⟨N5, rfl, rfl, n_a, b_a, b_x, b_y, hS, hW⟩ := hcut
    try clear hcut
    obtain ⟨a_0, a_1, a_2, a_3, a_4, a_5⟩ := b_a.cells5
    obtain ⟨x_0, x_1, x_2, x_3, x_4, x_5⟩ := b_x.cells5
    go_wp2_with fail
    refine (Phase_ok _ e2.out).mono ?_
    rintro e w6 ⟨rfl, hb⟩
    clear a_0 a_1 a_2 a_3 a_4 a_5 x_0 x_1 x_2 x_3 x_4 x_5
    have b_x := b_x.via hb (Below.refl _ _)
    have b_y := b_y.via hb (Below.refl _ _)
    clear b_a
    have hW := below_via hW hb (Below.refl _ _)
    have hS := StoreAt.via hS hb (Below.refl _ _)
    clear hb
    obtain ⟨x_0, x_1, x_2, x_3, x_4, x_5⟩ := b_x.cells5
    go_wp2_with fail
    refine (Same_ok _ e3.out).mono ?_
    rintro e w7 ⟨rfl, hb⟩
    clear x_0 x_1 x_2 x_3 x_4 x_5
    clear b_x
    have b_y := b_y.via hb (Below.refl _ _)
    have hW := below_via hW hb (Below.refl _ _)
    have hS := StoreAt.via hS hb (Below.refl _ _)
    clear hb
    go_wp2_with fail
    refine (into_ok m i hi _).mono ?_
    rintro e wI ⟨rfl, rfl⟩
    have E4 := phase_guard e4.out
    clear e4
    rcases E4 with q | ⟨q, rfl, rfl⟩
    all_goals
      go_wp2_with fail
      have hS := hS.below (Below.refl _ _)
      refine (num_calls b b _ 2 2 _ hS (by decide) (by decide) (by decide) (by decide) (by decide)).mono ?_
      rintro e w8 ⟨z, rfl, hz, hS, hg⟩
      have b_y := (b_y.below (Below.refl _ _) b_y.lt).grown hg n_y
      have hW := (hW.trans (Below.mono (Below.refl _ _) hW.size)).grown hg (by have := hW.size; (try simp); omega) (by intro k hk; injection hk with hk; omega)
      clear hg
      have hbs := hS.lt
      obtain ⟨p1, q1, f1, f2, f3⟩ := phased2 hy hz
      have f1 := Lib.hid f1
      have f2 := Lib.hid f2
      clear hS hbs
      rcases f3 with f3 | ⟨j, b1, f3, f4, f5, rfl⟩
      · have f3 := Lib.hid f3
        obtain ⟨y_0, y_1, y_2, y_3, y_4, y_5⟩ := (b_y.alloc (.cells #[.int .i64 z.p.a, .int .i64 z.p.b, .int .i64 z.p.c, .int .i64 z.p.d, .int .i64 z.k] 23)).cells5
        go_wp2_with fail
        refine (Phase_ok _ f3.out).mono ?_
        rintro e w9 ⟨rfl, hb⟩
        clear y_0 y_1 y_2 y_3 y_4 y_5
        have b_y := b_y.via hb (below1 _ _)
        have b_z : Blk w9 (w8.heap.size) 23 #[.int .i64 z.p.a, .int .i64 z.p.b, .int .i64 z.p.c, .int .i64 z.p.d, .int .i64 z.k] := Blk.newb hb
        have hW := below_via hW hb (below1 _ _)
        clear hb
        obtain ⟨y_0, y_1, y_2, y_3, y_4, y_5⟩ := b_y.cells5
        go_wp2_with fail
        refine (Norm_ok _ f1.out).mono ?_
        rintro e w10 ⟨rfl, hb⟩
        clear y_0 y_1 y_2 y_3 y_4 y_5
        have b_y := b_y.via hb (Below.refl _ _)
        have b_z := b_z.via hb (Below.refl _ _)
        have hW := below_via hW hb (Below.refl _ _)
        clear hb
        obtain ⟨z_0, z_1, z_2, z_3, z_4, z_5⟩ := (b_z.alloc (.cells #[.int .i64 p1.p.a, .int .i64 p1.p.b, .int .i64 p1.p.c, .int .i64 p1.p.d, .int .i64 p1.k] 23)).cells5
        go_wp2_with fail
        refine (Norm_ok _ f2.out).mono ?_
        rintro e w11 ⟨rfl, hb⟩
        clear z_0 z_1 z_2 z_3 z_4 z_5
        clear b_y
        clear b_z
        have hW := below_via hW hb (below1 _ _)
        clear hb
        go_wp2_with fail
        refine (HAW _ (ht.via (hW.alloc hW.size _))).mono ?_
        rintro e w12 ⟨rfl, hb⟩
        have hW := below_via hW hb (below1 _ _)
        clear hb
        go_wp2_with fail
        go_ret
        exact ⟨rfl, hW⟩
      · have f3 := Lib.hid f3
        have f4 := Lib.hid f4
        have f5 := Lib.hid f5
        obtain ⟨y_0, y_1, y_2, y_3, y_4, y_5⟩ := (b_y.alloc (.cells #[.int .i64 z.p.a, .int .i64 z.p.b, .int .i64 z.p.c, .int .i64 z.p.d, .int .i64 z.k] 23)).cells5
        go_wp2_with fail
        refine (Phase_ok _ f3.out).mono ?_
        rintro e w9 ⟨rfl, hb⟩
        clear y_0 y_1 y_2 y_3 y_4 y_5
        have b_y := b_y.via hb (below1 _ _)
        have b_z : Blk w9 (w8.heap.size) 23 #[.int .i64 z.p.a, .int .i64 z.p.b, .int .i64 z.p.c, .int .i64 z.p.d, .int .i64 z.k] := Blk.newb hb
        have hW := below_via hW hb (below1 _ _)
        clear hb
        obtain ⟨y_0, y_1, y_2, y_3, y_4, y_5⟩ := b_y.cells5
        go_wp2_with fail
        refine (Norm_ok _ f1.out).mono ?_
        rintro e w10 ⟨rfl, hb⟩
        clear y_0 y_1 y_2 y_3 y_4 y_5
        have b_y := b_y.via hb (Below.refl _ _)
        have b_z := b_z.via hb (Below.refl _ _)
        have hW := below_via hW hb (Below.refl _ _)
        clear hb
        obtain ⟨z_0, z_1, z_2, z_3, z_4, z_5⟩ := (b_z.alloc (.cells #[.int .i64 p1.p.a, .int .i64 p1.p.b, .int .i64 p1.p.c, .int .i64 p1.p.d, .int .i64 p1.k] 23)).cells5
        go_wp2_with fail
        refine (Norm_ok _ f2.out).mono ?_
        rintro e w11 ⟨rfl, hb⟩
        clear z_0 z_1 z_2 z_3 z_4 z_5
        have b_y := b_y.via hb (below1 _ _)
        have b_z := b_z.via hb (below1 _ _)
        have b_p : Blk w11 (w10.heap.size) 23 #[.int .i64 p1.p.a, .int .i64 p1.p.b, .int .i64 p1.p.c, .int .i64 p1.p.d, .int .i64 p1.k] := Blk.newb hb
        have hW := below_via hW hb (below1 _ _)
        clear hb
        have j0 : 0 ≤ (j.val : Int) := by omega
        have j8 : (j.val : Int) < 8 := by omega
        have hj : ((j.val : Int) % 8).toNat = j.val := by omega
        have HO := Lib.hid (fun W => omega_ok (j.val : Int) j hj W)
        clear hj
        go_upto_region 16 with fail
        have b_y := (b_y.alloc (.cells #[.int .i64 p1.p.a, .int .i64 p1.p.b, .int .i64 p1.p.c, .int .i64 p1.p.d, .int .i64 p1.k] 23))
        have b_z := (b_z.alloc (.cells #[.int .i64 p1.p.a, .int .i64 p1.p.b, .int .i64 p1.p.c, .int .i64 p1.p.d, .int .i64 p1.k] 23))
        have b_p := (b_p.alloc (.cells #[.int .i64 p1.p.a, .int .i64 p1.p.b, .int .i64 p1.p.c, .int .i64 p1.p.d, .int .i64 p1.k] 23))
        have b_q : Blk (w11.alloc (.cells #[.int .i64 p1.p.a, .int .i64 p1.p.b, .int .i64 p1.p.c, .int .i64 p1.p.d, .int .i64 p1.k] 23)) (w11.heap.size) 23 #[.int .i64 p1.p.a, .int .i64 p1.p.b, .int .i64 p1.p.c, .int .i64 p1.p.d, .int .i64 p1.k] := Blk.new _ _ _
        have hW : Below w.heap.size w (w11.alloc (.cells #[.int .i64 p1.p.a, .int .i64 p1.p.b, .int .i64 p1.p.c, .int .i64 p1.p.d, .int .i64 p1.k] 23)) := hW.trans (Below.mono (below1 _ _) hW.size)
        generalize w11.alloc (.cells #[.int .i64 p1.p.a, .int .i64 p1.p.b, .int .i64 p1.p.c, .int .i64 p1.p.d, .int .i64 p1.k] 23) = w12 at b_y b_z b_p b_q hW ⊢
        have o_y := b_y
        have b_y := b_y.drew
        have z_y := o_y.lt
        have o_z := b_z
        have b_z := b_z.drew
        have z_z := o_z.lt
        have o_p := b_p
        have b_p := b_p.drew
        have z_p := o_p.lt
        have o_q := b_q
        have b_q := b_q.drew
        have z_q := o_q.lt
        have oW := hW
        have hW := hW.drew
        have zW := oW.size
        go_cut [17, 9] (fun s17 s9 wx => ∃ N : Nat, s17 = .pointer (some ⟨N, 0, none⟩) ∧ s9 = .int .i64 0 ∧ True ∧ Blk wx N 23 #[.int .i64 b1.p.a, .int .i64 b1.p.b, .int .i64 b1.p.c, .int .i64 b1.p.d, .int .i64 b1.k] ∧ Blk wx (w3.heap.size + 1) 23 #[.int .i64 y.p.a, .int .i64 y.p.b, .int .i64 y.p.c, .int .i64 y.p.d, .int .i64 y.k] ∧ Blk wx (w10.heap.size) 23 #[.int .i64 p1.p.a, .int .i64 p1.p.b, .int .i64 p1.p.c, .int .i64 p1.p.d, .int .i64 p1.k] ∧ Blk wx (w11.heap.size) 23 #[.int .i64 p1.p.a, .int .i64 p1.p.b, .int .i64 p1.p.c, .int .i64 p1.p.d, .int .i64 p1.k] ∧ Below w.heap.size w wx)
        case first =>
          go_region_held3 (fun w' => w'.cell? ⟨w8.heap.size, 0, none⟩ = some (.int .i64 z.p.a) ∧ w'.cell? ⟨w8.heap.size, 1, none⟩ = some (.int .i64 z.p.b) ∧ w'.cell? ⟨w8.heap.size, 2, none⟩ = some (.int .i64 z.p.c) ∧ w'.cell? ⟨w8.heap.size, 3, none⟩ = some (.int .i64 z.p.d) ∧ w'.cell? ⟨w8.heap.size, 4, none⟩ = some (.int .i64 z.k)) (((with_reducible refine fives1 (t := 23) ?_) <;> (repeat (first | (with_reducible exact b_z) | (with_reducible exact o_z) | ((with_reducible refine Blk.far' ?_ _ ?_); (focus ((try dsimp only); omega))) | (with_reducible refine Blk.alloc ?_ _) | (with_reducible refine Blk.drew ?_)))))
            (first
              | (go_at_call 36; ((with_reducible refine (HO.out _).mono ?_); rintro e u1 ⟨rfl, hb⟩; (first | (have hn := Blk.step hn hb ⟨by first | exact .inl rfl | exact .inr ⟨_, rfl⟩, by rfl, by rfl, by rfl⟩; obtain ⟨n0, n1, n2, n3, n4, nf⟩ := hn.cells5; have zn := hn.lt) | (have hn := Blk.fresh hb rfl; obtain ⟨n0, n1, n2, n3, n4, nf⟩ := hn.cells5; have zn := hn.lt) | skip); have b_y := b_y.step hb ⟨by first | exact .inl rfl | exact .inr ⟨_, rfl⟩, by rfl, by rfl, by rfl⟩; have z_y := b_y.lt; have b_z := b_z.step hb ⟨by first | exact .inl rfl | exact .inr ⟨_, rfl⟩, by rfl, by rfl, by rfl⟩; have z_z := b_z.lt; have b_p := b_p.step hb ⟨by first | exact .inl rfl | exact .inr ⟨_, rfl⟩, by rfl, by rfl, by rfl⟩; have z_p := b_p.lt; have b_q := b_q.step hb ⟨by first | exact .inl rfl | exact .inr ⟨_, rfl⟩, by rfl, by rfl, by rfl⟩; have z_q := b_q.lt; have hW := below_step hW hb ⟨by first | exact .inl rfl | exact .inr ⟨_, rfl⟩, by rfl, by rfl, by rfl⟩; have zW := hW.size; clear hb))
              | (go_at_call 31; ((with_reducible refine (Mul_ok _ f4.out).mono ?_); rintro e u1 ⟨rfl, hb⟩; (first | (have hn := Blk.step hn hb ⟨by first | exact .inl rfl | exact .inr ⟨_, rfl⟩, by rfl, by rfl, by rfl⟩; obtain ⟨n0, n1, n2, n3, n4, nf⟩ := hn.cells5; have zn := hn.lt) | (have hn := Blk.fresh hb rfl; obtain ⟨n0, n1, n2, n3, n4, nf⟩ := hn.cells5; have zn := hn.lt) | skip); have b_y := b_y.step hb ⟨by first | exact .inl rfl | exact .inr ⟨_, rfl⟩, by rfl, by rfl, by rfl⟩; have z_y := b_y.lt; have b_z := b_z.step hb ⟨by first | exact .inl rfl | exact .inr ⟨_, rfl⟩, by rfl, by rfl, by rfl⟩; have z_z := b_z.lt; have b_p := b_p.step hb ⟨by first | exact .inl rfl | exact .inr ⟨_, rfl⟩, by rfl, by rfl, by rfl⟩; have z_p := b_p.lt; have b_q := b_q.step hb ⟨by first | exact .inl rfl | exact .inr ⟨_, rfl⟩, by rfl, by rfl, by rfl⟩; have z_q := b_q.lt; have hW := below_step hW hb ⟨by first | exact .inl rfl | exact .inr ⟨_, rfl⟩, by rfl, by rfl, by rfl⟩; have zW := hW.size; clear hb)))
          all_goals go_wp2_with fail
          all_goals go_meet
          all_goals first
            | exact ⟨_, rfl, rfl, trivial, hn.put5, b_y.far5 (by omega) _ _ _ _ _, b_p.far5 (by omega) _ _ _ _ _, b_q.far5 (by omega) _ _ _ _ _, below_put5 hW (by omega) _ _ _ _ _⟩
            | exact ⟨_, rfl, rfl, trivial, Blk.new _ _ _, b_y.alloc _, b_p.alloc _, b_q.alloc _, hW.alloc hW.size _⟩
        case rest =>
          clear b_y o_y z_y b_z o_z z_z b_p o_p z_p b_q o_q z_q oW hW zW
          obtain ⟨N13, rfl, rfl, n_b2, b_b2, b_y, b_p, b_q, hW⟩ := hcut
          try clear hcut
          obtain ⟨b2_0, b2_1, b2_2, b2_3, b2_4, b2_5⟩ := b_b2.cells5
          obtain ⟨y_0, y_1, y_2, y_3, y_4, y_5⟩ := b_y.cells5
          go_wp2_with fail
          refine (Same_ok _ f5.out).mono ?_
          rintro e w14 ⟨rfl, hb⟩
          clear b2_0 b2_1 b2_2 b2_3 b2_4 b2_5 y_0 y_1 y_2 y_3 y_4 y_5
          clear b_y
          have b_p := b_p.via hb (Below.refl _ _)
          have b_q := b_q.via hb (Below.refl _ _)
          clear b_b2
          have hW := below_via hW hb (Below.refl _ _)
          clear hb
          obtain ⟨p_0, p_1, p_2, p_3, p_4, p_5⟩ := b_p.cells5
          obtain ⟨q_0, q_1, q_2, q_3, q_4, q_5⟩ := b_q.cells5
          go_wp2_with fail
          refine (HAW _ (ht.via hW)).mono ?_
          rintro e w15 ⟨rfl, hb⟩
          clear p_0 p_1 p_2 p_3 p_4 p_5 q_0 q_1 q_2 q_3 q_4 q_5
          clear b_p
          clear b_q
          have hW := below_via hW hb (Below.refl _ _)
          clear hb
          go_wp2_with fail
          go_ret
          exact ⟨rfl, hW⟩
end Go.Proofs.YtlglmooknlmomaaDoor
end
