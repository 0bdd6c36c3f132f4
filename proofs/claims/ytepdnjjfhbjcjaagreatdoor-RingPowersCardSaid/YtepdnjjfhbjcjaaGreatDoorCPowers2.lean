import Derived.Test.YtepdnjjfhbjcjaaGreatDoorC21
import Derived.Test.YtepdnjjfhbjcjaaGreatDoorCPowers0
set_option linter.all false
section
namespace Go.Proofs.YtepdnjjfhbjcjaaGreatDoorPR
open Go.RowKit Go.Proofs.YtepdnjjfhbjcjaaGreatDoor.Inj Go.Proofs.YtepdnjjfhbjcjaaGreatDoorW.PrintWords Go.Proofs.YtepdnjjfhbjcjaaGreatDoorW.PrintLast Go.Proofs.YtepdnjjfhbjcjaaGreatDoorW.PrintMore
attribute [local go_sem] max2_int min2_int max_two min_two max_three min_three max_four min_four
set_option linter.unusedVariables false
set_option linter.unusedSimpArgs false
theorem eqA23 (d : Nat) (w : World) (x0 y0 : Int) (x1 y1 : Int) (x2 y2 : Int) (x3 y3 : Int) (x4 y4 : Int) :
    (Op.equalIn (d + 2) 23 (.agg #[.int .i64 x0, .int .i64 x1, .int .i64 x2, .int .i64 x3, .int .i64 x4]) (.agg #[.int .i64 y0, .int .i64 y1, .int .i64 y2, .int .i64 y3, .int .i64 y4])).run Tryz.prog w = .ok (x0 == y0 && (x1 == y1 && (x2 == y2 && (x3 == y3 && (x4 == y4))))) w := by
  refine eqA_of Tryz.underlying23 (by kernel_rfl) ?_
  refine eqf_cons (by rfl) (by go_simp; rfl) (by go_simp; rfl) (by go_simp) ?_
  refine eqf_cons (by rfl) (by go_simp; rfl) (by go_simp; rfl) (by go_simp) ?_
  refine eqf_cons (by rfl) (by go_simp; rfl) (by go_simp; rfl) (by go_simp) ?_
  refine eqf_cons (by rfl) (by go_simp; rfl) (by go_simp; rfl) (by go_simp) ?_
  exact eqf_last (by rfl) (by go_simp; rfl) (by go_simp; rfl) (by go_simp)
end Go.Proofs.YtepdnjjfhbjcjaaGreatDoorPR
end
section
set_option linter.all false
namespace Go.Proofs.YtepdnjjfhbjcjaaGreatDoor
open Go.RowKit Go.Proofs.YtepdnjjfhbjcjaaGreatDoorPR Go.Proofs.YtepdnjjfhbjcjaaGreatDoorW.PrintWords Go.Proofs.YtepdnjjfhbjcjaaGreatDoorW.PrintLast Go.Proofs.YtepdnjjfhbjcjaaGreatDoorW.PrintMore
attribute [local go_sem high] eqA23
abbrev R6 (a b c d k e : Int) : Value := .tuple #[.agg #[.int .i64 a, .int .i64 b, .int .i64 c, .int .i64 d, .int .i64 k], .int .i64 e]
theorem Blk.bl {X w w' : World} {g : Nat} {t : TypeId} {cs : Array Value} (h : Blk w g t cs) (hb : Below X.heap.size X w') (hX : Below w.heap.size w X) : Blk w' g t cs :=
  (h.below hX h.lt).below hb (h.below hX h.lt).lt
theorem Blk.nb {w w' : World} {t : TypeId} {cs : Array Value} (hb : Below (w.alloc (.cells cs t)).heap.size (w.alloc (.cells cs t)) w') : Blk w' w.heap.size t cs := (Blk.new w t cs).below hb (by simp)
theorem Blk.c5 {w : World} {g : Nat} {t : TypeId} {a b c d e : Value} (h : Blk w g t #[a, b, c, d, e]) :
    w.cell? ⟨g, 0, none⟩ = some a ∧ w.cell? ⟨g, 1, none⟩ = some b ∧ w.cell? ⟨g, 2, none⟩ = some c ∧ w.cell? ⟨g, 3, none⟩ = some d ∧ w.cell? ⟨g, 4, none⟩ = some e ∧ ∀ i, w.frozen? ⟨g, i, none⟩ = false :=
  ⟨h.cell 0, h.cell 1, h.cell 2, h.cell 3, h.cell 4, h.frozen⟩
set_option maxRecDepth 100000 in
set_option maxHeartbeats 8000000 in
theorem powers_walk (x : Nm) (a n : Int) (A : Option Addr) (c : Nat) (l : List S23) (r0 r1 r2 r3 r4 r5 p0 p1 p2 p3 p4 p5 s0 s1 s2 s3 s4 s5 o0 o1 o2 o3 o4 : Int)
    (HR1 : Hid (∀ W, Calls Tryz.prog 6 #[.int .i64 n] W fun e w' => e = .returned (R6 r0 r1 r2 r3 r4 r5) ∧ Below W.heap.size W w'))
    (HR2 : Hid (∀ W, Calls Tryz.prog 9 #[.int .i64 n] W fun e w' => e = .returned (R6 r0 r1 r2 r3 r4 r5) ∧ Below W.heap.size W w'))
    (HP1 : Hid (∀ W, Calls Tryz.prog 7 #[.agg #[.int .i64 x.p.a, .int .i64 x.p.b, .int .i64 x.p.c, .int .i64 x.p.d, .int .i64 x.k], .int .i64 a] W fun e w' => e = .returned (R6 p0 p1 p2 p3 p4 p5) ∧ Below W.heap.size W w'))
    (HP2 : Hid (∀ W, Calls Tryz.prog 10 #[.agg #[.int .i64 x.p.a, .int .i64 x.p.b, .int .i64 x.p.c, .int .i64 x.p.d, .int .i64 x.k], .int .i64 a] W fun e w' => e = .returned (R6 p0 p1 p2 p3 p4 p5) ∧ Below W.heap.size W w'))
    (HS1 : Hid (∀ W A c, Kd.C k23 W A l.length l → l.length ≤ c → l.length ≤ 100 → Calls Tryz.prog 8 #[.slice A l.length c] W fun e w' => e = .returned (R6 s0 s1 s2 s3 s4 s5) ∧ Below W.heap.size W w'))
    (HS2 : Hid (∀ W A c, Kd.C k23 W A l.length l → l.length ≤ c → l.length ≤ 100 → Calls Tryz.prog 11 #[.slice A l.length c] W fun e w' => e = .returned (R6 s0 s1 s2 s3 s4 s5) ∧ Below W.heap.size W w'))
    (HO1 : Hid (∀ W, Calls Tryz.prog 13 #[.int .i64 a] W fun e w' => e = .returned (.agg #[.int .i64 o0, .int .i64 o1, .int .i64 o2, .int .i64 o3, .int .i64 o4]) ∧ Below W.heap.size W w'))
    (HO2 : Hid (∀ W, Calls Tryz.prog 12 #[.int .i64 a] W fun e w' => e = .returned (.agg #[.int .i64 o0, .int .i64 o1, .int .i64 o2, .int .i64 o3, .int .i64 o4]) ∧ Below W.heap.size W w'))
    (w : World) (hK : Kd.C k23 w A l.length l) (hc : l.length ≤ c) (ht : Tabs w) :
    Calls Tryz.prog 3 #[.agg #[.int .i64 x.p.a, .int .i64 x.p.b, .int .i64 x.p.c, .int .i64 x.p.d, .int .i64 x.k], .int .i64 a, .int .i64 n, .slice A l.length c] w fun e w' => e = .returned (.bool true) ∧ Below w.heap.size w w' := by
  have HA := Lib.hid (fun W (h : Tabs W) => Inj.spoondriftlaw01_awake.calls true W rfl h)
  have HK := Lib.hid hK
  have HT := Lib.hid ht
  clear hK ht
  by_cases h100 : 100 < l.length
  · go_enter Tryz.func3, Tryz.ntmps3
    go_wp2_with fail
    refine (HA.out _ (HT.out.below (below1 _ _))).mono ?_
    rintro e w1 ⟨rfl, hb1⟩
    go_wp2_with fail
    go_ret
    exact ⟨rfl, bt hb1 (below1 _ _) (by simp)⟩
  · go_enter Tryz.func3, Tryz.ntmps3
    go_wp2_with fail
    refine (HR1.out _).mono ?_
    rintro e w1 ⟨rfl, hb1⟩
    have bx : Blk w1 w.heap.size 23 _ := Blk.nb hb1
    have hW : Below w.heap.size w w1 := bt hb1 (below1 _ _) (by simp)
    clear hb1
    obtain ⟨x_0, x_1, x_2, x_3, x_4, x_5⟩ := (bx.alloc (.cells #[.int .i64 r0, .int .i64 r1, .int .i64 r2, .int .i64 r3, .int .i64 r4] 23)).c5
    go_wp2_with fail
    refine (HP1.out _).mono ?_
    rintro e w2 ⟨rfl, hb2⟩
    clear x_0 x_1 x_2 x_3 x_4 x_5
    have bx := bx.bl hb2 (below1 _ _)
    have br : Blk w2 w1.heap.size 23 _ := Blk.nb hb2
    have hW := bt hb2 (hW.alloc hW.size _) (by have := hW.size; simp; omega)
    clear hb2
    go_wp2_with fail
    refine (HS1.out _ _ _ (Kd.C_below HK.out (hW.alloc hW.size _)) hc (by omega)).mono ?_
    rintro e w3 ⟨rfl, hb3⟩
    have bx := bx.bl hb3 (below1 _ _)
    have br := br.bl hb3 (below1 _ _)
    have bp : Blk w3 w2.heap.size 23 _ := Blk.nb hb3
    have hW := bt hb3 (hW.alloc hW.size _) (by have := hW.size; simp; omega)
    clear hb3
    go_upto_region 6 with fail
    have bx := bx.alloc (.cells #[.int .i64 s0, .int .i64 s1, .int .i64 s2, .int .i64 s3, .int .i64 s4] 23)
    have br := br.alloc (.cells #[.int .i64 s0, .int .i64 s1, .int .i64 s2, .int .i64 s3, .int .i64 s4] 23)
    have bp := bp.alloc (.cells #[.int .i64 s0, .int .i64 s1, .int .i64 s2, .int .i64 s3, .int .i64 s4] 23)
    have bs_ := Blk.new w3 23 #[.int .i64 s0, .int .i64 s1, .int .i64 s2, .int .i64 s3, .int .i64 s4]
    have hW := hW.alloc hW.size (.cells #[.int .i64 s0, .int .i64 s1, .int .i64 s2, .int .i64 s3, .int .i64 s4] 23)
    have hW6 := hW.size
    generalize w3.alloc (.cells #[.int .i64 s0, .int .i64 s1, .int .i64 s2, .int .i64 s3, .int .i64 s4] 23) = w4 at *
    have hK4 := Kd.C_below HK.out hW
    go_wp2_with (first
      | (refine Kd.R_lit k23 (w0 := w4) w4.heap.size 23 ?hg (N := 43) ?hd (xs := ([] : List S23)) (inner := []) (ok := fun _ => True) (okp := fun _ => True) ?hr ?hp (fun _ hk => hk) trivial (Below.refl _ _) (Nat.le_refl _) (by simp) ?_; (case hd => rfl); (case hg => rfl); (case hr => first | (go_simp; done) | (go_simp; rfl)); (case hp => exact (Reps.none _ _)); intro v5 w5 ho hb5 _ _)
      | (at_builtin; refine Kd.R_append_rows k23 (w0 := w4) w4.heap.size rfl (.tmp 43) (.tmp 44) 24 23 (.agg #[.int .i64 0, .int .i64 0, .int .i64 0, .int .i64 0, .int .i64 0]) 40 rfl Tryz.underlying24 info23 rfl (by decide) (by omega) v5 [] l _ _ _ (fun _ => True) (fun _ => False) rfl rfl ho (Kd.C_below hK4 hb5) (fun _ _ h => h) (fun _ h => h.elim) (fun _ _ => trivial) hb5 hb5.size (by simp; omega) ?_; intro v6 w6 ho6 hb6 _ _))
    have hq6 : Kd.R k23 23 w6 w4.heap.size (fun _ => True) v6 l := ho6
    obtain ⟨A6, c6, rfl, hc6, hK6⟩ := Kd.R_reads hq6
    have bx := bx.below hb6 bx.lt
    have br := br.below hb6 br.lt
    have bp := bp.below hb6 bp.lt
    have bs_ := bs_.below hb6 bs_.lt
    have hK4 := Kd.C_below hK4 hb6
    have hW := bt hb6 hW hW.size
    clear ho hb5 ho6 hq6 hb6 hW6
    refine (HR2.out _).mono ?_
    rintro e w7 ⟨rfl, hb7⟩
    have bx := bx.below hb7 bx.lt
    have br := br.below hb7 br.lt
    have bp := bp.below hb7 bp.lt
    have bs_ := bs_.below hb7 bs_.lt
    have hK4 := Kd.C_below hK4 hb7
    have hK6 := Kd.C_below hK6 hb7
    have hW := bt hb7 hW hW.size
    clear hb7
    obtain ⟨x_0, x_1, x_2, x_3, x_4, x_5⟩ := (bx.alloc (.cells #[.int .i64 r0, .int .i64 r1, .int .i64 r2, .int .i64 r3, .int .i64 r4] 23)).c5
    go_wp2_with fail
    refine (HP2.out _).mono ?_
    rintro e w8 ⟨rfl, hb8⟩
    clear x_0 x_1 x_2 x_3 x_4 x_5
    have bx := bx.bl hb8 (below1 _ _)
    have br := br.bl hb8 (below1 _ _)
    have bp := bp.bl hb8 (below1 _ _)
    have bs_ := bs_.bl hb8 (below1 _ _)
    have b7 : Blk w8 w7.heap.size 23 _ := Blk.nb hb8
    have hK4 := Kd.C_below (Kd.C_alloc hK4 _) hb8
    have hK6 := Kd.C_below (Kd.C_alloc hK6 _) hb8
    have hW := bt hb8 (hW.alloc hW.size _) (by have := hW.size; simp; omega)
    clear hb8
    go_wp2_with fail
    refine (HS2.out _ _ _ (Kd.C_alloc hK6 _) hc6 (by omega)).mono ?_
    rintro e w9 ⟨rfl, hb9⟩
    have br := br.bl hb9 (below1 _ _)
    have bp := bp.bl hb9 (below1 _ _)
    have bs_ := bs_.bl hb9 (below1 _ _)
    have b7 := b7.bl hb9 (below1 _ _)
    have b8 : Blk w9 w8.heap.size 23 _ := Blk.nb hb9
    have hK4 := Kd.C_below (Kd.C_alloc hK4 _) hb9
    have hK6 := Kd.C_below (Kd.C_alloc hK6 _) hb9
    have hW := bt hb9 (hW.alloc hW.size _) (by have := hW.size; simp; omega)
    clear hb9 bx
    go_wp2_with fail
    have br := br.alloc (.cells #[.int .i64 s0, .int .i64 s1, .int .i64 s2, .int .i64 s3, .int .i64 s4] 23)
    have bp := bp.alloc (.cells #[.int .i64 s0, .int .i64 s1, .int .i64 s2, .int .i64 s3, .int .i64 s4] 23)
    have bs_ := bs_.alloc (.cells #[.int .i64 s0, .int .i64 s1, .int .i64 s2, .int .i64 s3, .int .i64 s4] 23)
    have b7 := b7.alloc (.cells #[.int .i64 s0, .int .i64 s1, .int .i64 s2, .int .i64 s3, .int .i64 s4] 23)
    have b8 := b8.alloc (.cells #[.int .i64 s0, .int .i64 s1, .int .i64 s2, .int .i64 s3, .int .i64 s4] 23)
    have b9 := Blk.new w9 23 #[.int .i64 s0, .int .i64 s1, .int .i64 s2, .int .i64 s3, .int .i64 s4]
    have hK4 := Kd.C_alloc hK4 (.cells #[.int .i64 s0, .int .i64 s1, .int .i64 s2, .int .i64 s3, .int .i64 s4] 23)
    have hK6 := Kd.C_alloc hK6 (.cells #[.int .i64 s0, .int .i64 s1, .int .i64 s2, .int .i64 s3, .int .i64 s4] 23)
    have hW := hW.alloc hW.size (.cells #[.int .i64 s0, .int .i64 s1, .int .i64 s2, .int .i64 s3, .int .i64 s4] 23)
    generalize w9.alloc (.cells #[.int .i64 s0, .int .i64 s1, .int .i64 s2, .int .i64 s3, .int .i64 s4] 23) = wa at *
    go_loopg [64] l.length (fun gk i wr => ∃ (j m : Nat), j + gk = l.length ∧ i = .int .i64 j ∧ wr = wa.drewN m)
    case atStart => exact ⟨0, 0, by omega, rfl, rfl⟩
    case round =>
      obtain ⟨j, m, hj, rfl, rfl⟩ := hrel
      cases gk with
      | zero =>
        obtain rfl : j = l.length := by omega
        have hW := belowN hW m
        obtain ⟨r_0, r_1, r_2, r_3, r_4, _⟩ := Blk.c5 br
        obtain ⟨p_0, p_1, p_2, p_3, p_4, _⟩ := Blk.c5 bp
        obtain ⟨s_0, s_1, s_2, s_3, s_4, _⟩ := Blk.c5 bs_
        obtain ⟨a_0, a_1, a_2, a_3, a_4, _⟩ := Blk.c5 b7
        obtain ⟨b_0, b_1, b_2, b_3, b_4, _⟩ := Blk.c5 b8
        obtain ⟨c_0, c_1, c_2, c_3, c_4, _⟩ := Blk.c5 b9
        clear br bp bs_ b7 b8 b9 hK4 hK6 hj
        go_wp2_with fail
        refine (HO2.out _).mono ?_
        rintro e w10 ⟨rfl, hb10⟩
        clear r_0 r_1 r_2 r_3 r_4 p_0 p_1 p_2 p_3 p_4 s_0 s_1 s_2 s_3 s_4 a_0 a_1 a_2 a_3 a_4 b_0 b_1 b_2 b_3 b_4 c_0 c_1 c_2 c_3 c_4
        have hW := bt hb10 hW hW.size
        clear hb10
        go_wp2_with fail
        refine (HO1.out _).mono ?_
        rintro e w11 ⟨rfl, hb11⟩
        have hW := bt hb11 hW hW.size
        clear hb11
        go_wp2_with fail
        refine (HA.out _ (HT.out.below hW)).mono ?_
        rintro e w12 ⟨rfl, hb12⟩
        have hW := bt hb12 hW hW.size
        clear hb12
        go_wp2_with fail
        go_ret
        exact ⟨rfl, hW⟩
      | succ g =>
        have hlt : j < l.length := by omega
        have hlt1 : (j : Int) < (l.length : Int) := by omega
        have hlt0 : (0 : Int) ≤ (j : Int) := by omega
        obtain ⟨ad4, rfl, k0, k1, k2, k3, k4⟩ := at_T23 hK4 (j : Int) (by omega) (by omega)
        obtain ⟨ad6, rfl, q0, q1, q2, q3, q4⟩ := at_T23 hK6 (j : Int) (by omega) (by omega)
        rw [Int.toNat_natCast] at k0 k1 k2 k3 k4 q0 q1 q2 q3 q4
        generalize rd_T23 l (j : Int) = z at *
        go_wp2_with fail
        go_quiet (fail)
        go_wp2_with fail
        go_roundg g
        case measure => omega
        case rel => exact ⟨j + 1, _, by omega, by go_num, rfl⟩
end Go.Proofs.YtepdnjjfhbjcjaaGreatDoor
end
