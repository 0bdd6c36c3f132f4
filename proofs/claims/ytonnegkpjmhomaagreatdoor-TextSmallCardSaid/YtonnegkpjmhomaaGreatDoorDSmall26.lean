import Derived.Test.YtonnegkpjmhomaaGreatDoorDSmall8
import Derived.Test.YtonnegkpjmhomaaGreatDoorDSmall17
import Derived.Test.YtonnegkpjmhomaaGreatDoorDSmall20
import Derived.Test.YtonnegkpjmhomaaGreatDoorDSmall22
import Derived.Test.YtonnegkpjmhomaaGreatDoorDSmall24
import Derived.Test.YtonnegkpjmhomaaGreatDoorDSmall25
set_option linter.all false
section
set_option linter.all false
namespace Go.Proofs.YtonnegkpjmhomaaGreatDoor
open Go.RowKit
theorem greatB_no {gs : List Gt} (h : greatB gs = false) : gs.length ≤ 130 ∧ ∀ g ∈ gs, g.wires.length ≤ 6 := by
  unfold greatB at h
  rw [Bool.or_eq_false_iff, decide_eq_false_iff_not, List.any_eq_false] at h
  refine ⟨by omega, fun g hg => ?_⟩
  have := h.2 g hg
  unfold manyW at this
  simp only [decide_eq_true_eq] at this
  omega
structure QSt (w wx : World) (X Y : Nat) (W Bt : Int) (gs : List Gt) (g : Gt) (v1 w1 : Value) (X2 Y2 : Nat) (v2 w2 : Value) : Prop where
  x : Blk wx X 25 #[.int .i64 W, .int .i64 Bt, v1]
  y : Blk wx Y 61 #[.int .i64 g.kind, w1, .int .i64 g.bit, .int .i64 g.ifn]
  x2 : Blk wx X2 25 #[.int .i64 W, .int .i64 Bt, v2]
  y2 : Blk wx Y2 61 #[.int .i64 g.kind, w2, .int .i64 g.bit, .int .i64 g.ifn]
  k : GatesAt wx wx.heap.size v2 gs
  m : IntsAt wx wx.heap.size w2 g.wires
  kept : Below w.heap.size w wx
theorem QSt.below {w wx w' : World} {X Y : Nat} {W Bt : Int} {gs : List Gt} {g : Gt} {v1 w1 : Value} {X2 Y2 : Nat} {v2 w2 : Value} (h : QSt w wx X Y W Bt gs g v1 w1 X2 Y2 v2 w2) (hb : Below wx.heap.size wx w') : QSt w w' X Y W Bt gs g v1 w1 X2 Y2 v2 w2 :=
  ⟨h.x.below hb h.x.lt, h.y.below hb h.y.lt, h.x2.below hb h.x2.lt, h.y2.below hb h.y2.lt, (h.k.below hb).more hb.size, (h.m.below hb).more hb.size, h.kept.trans (hb.mono h.kept.size)⟩
theorem Blk.three {w : World} {g : Nat} {t : TypeId} {a b c : Value} (h : Blk w g t #[a, b, c]) : w.cell? ⟨g, 0, none⟩ = some a ∧ w.cell? ⟨g, 1, none⟩ = some b ∧ w.cell? ⟨g, 2, none⟩ = some c ∧ ∀ i, w.frozen? ⟨g, i, none⟩ = false := ⟨h.cell 0, h.cell 1, h.cell 2, h.frozen⟩
set_option maxRecDepth 100000 in
set_option maxHeartbeats 16000000 in
theorem TextPrints_ok (W Bt : Int) (gv : Value) (gs : List Gt) (g : Gt) (wv : Value) (w : World) (hv : GatesAt w w.heap.size gv gs) (hw : IntsAt w w.heap.size wv g.wires) (ht : Tabs w) :
    Calls Tryz.prog 28 #[.agg #[.int .i64 W, .int .i64 Bt, gv], .agg #[.int .i64 g.kind, wv, .int .i64 g.bit, .int .i64 g.ifn]] w fun e w' => e = .returned (.bool true) ∧ Below w.heap.size w w' := by
  have HA := Lib.hid awake_calls
  have HT := Lib.hid ht
  obtain ⟨A, c, rfl, _⟩ := hv.form
  obtain ⟨D, d, rfl, _⟩ := hw.form
  have hb0 := below2 w (.cells #[.int .i64 W, .int .i64 Bt, .slice A gs.length c] 25) (.cells #[.int .i64 g.kind, .slice D g.wires.length d, .int .i64 g.bit, .int .i64 g.ifn] 61)
  have hx := (Blk.new w 25 #[.int .i64 W, .int .i64 Bt, .slice A gs.length c]).alloc (.cells #[.int .i64 g.kind, .slice D g.wires.length d, .int .i64 g.bit, .int .i64 g.ifn] 61)
  have hy := Blk.at_ (w.alloc (.cells #[.int .i64 W, .int .i64 Bt, .slice A gs.length c] 25)) 61 #[.int .i64 g.kind, .slice D g.wires.length d, .int .i64 g.bit, .int .i64 g.ifn] (n := w.heap.size + 1) (by simp)
  have Hv := Lib.hid hv
  have Hw := Lib.hid hw
  have HG := Lib.hid (fun W' (hb : Below w.heap.size w W') => Great_calls W Bt gs (.slice A gs.length c) w.heap.size W' hb.size (hv.below hb))
  clear hv hw ht
  obtain ⟨gb, hgb⟩ : ∃ x, greatB gs = x := ⟨_, rfl⟩
  rw [hgb] at HG
  cases gb
  · by_cases h6 : 6 < g.wires.length
    · have d6 : decide ((6 : Int) < (g.wires.length : Int)) = true := decide_eq_true (by omega)
      clear hgb h6
      go_enter Tryz.func28, Tryz.ntmps28
      go_upto_region 1 with fail
      generalize (w.alloc (.cells #[.int .i64 W, .int .i64 Bt, .slice A gs.length c] 25)).alloc (.cells #[.int .i64 g.kind, .slice D g.wires.length d, .int .i64 g.bit, .int .i64 g.ifn] 61) = wa at *
      have x0 := hx.cell 0
      have x1 := hx.cell 1
      have x2 := hx.cell 2
      have xf := hx.frozen
      simp at x0 x1 x2
      go_wp2_with fail
      with_reducible refine (HG.out _ hb0).mono ?_
      rintro e w1 ⟨rfl, hb1⟩
      have hb2 := bt hb1 hb0 hb0.size
      have hy2 := hy.below hb1 hy.lt
      obtain ⟨y0, y1, y2, y3, yf⟩ := hy2.cells4
      clear x0 x1 x2 xf
      go_wp2_with fail
      with_reducible refine (HA.out _ (HT.out.below hb2)).mono ?_
      rintro e w2 ⟨rfl, hb3⟩
      go_wp2_with fail
      go_ret
      exact ⟨rfl, bt hb3 hb2 hb2.size⟩
    · have d6 : decide ((6 : Int) < (g.wires.length : Int)) = false := decide_eq_false (by omega)
      obtain ⟨hgl, hgw⟩ := greatB_no hgb
      have HO := Lib.hid (fun W' (hb : Below w.heap.size w W') => Own_calls W Bt gs (.slice A gs.length c) w.heap.size W' hb.size (Hv.out.below hb) (fun g hg => Nat.le_trans (hgw g hg) (by decide)) (by omega))
      have HK := Lib.hid (fun W' (hb : Below w.heap.size w W') => refCheck_calls W Bt (.slice A gs.length c) gs w.heap.size W' hb.size (Hv.out.below hb) (fun g hg => Nat.le_trans (hgw g hg) (by decide)))
      have HP := Lib.hid (fun (h0 : chkC ⟨W, Bt, gs⟩ = 0) W' (hb : Below w.heap.size w W') => refPrint_calls W Bt (.slice A gs.length c) gs w.heap.size W' hb.size (Hv.out.below hb) h0)
      have HS := Lib.hid (fun W' (hb : Below w.heap.size w W') => refShow_calls g (.slice D g.wires.length d) w.heap.size W' hb.size (Hw.out.below hb) (by omega))
      have Hsp : Hid (sPrint ⟨W, Bt, gs⟩ = if chkC ⟨W, Bt, gs⟩ = 0 then (printP ⟨W, Bt, gs⟩, 0) else ([], chkC ⟨W, Bt, gs⟩)) := rfl
      have Hgw := Lib.hid hgw
      have h6' : g.wires.length ≤ 1000000 := by omega
      clear hgb hgw
      have HC := Lib.hid (fun W' (hb : Below w.heap.size w W') => Clone_any g.wires (.slice D g.wires.length d) w.heap.size W' (Hw.out.below hb) h6')
      go_enter Tryz.func28, Tryz.ntmps28
      go_upto_region 1 with fail
      generalize (w.alloc (.cells #[.int .i64 W, .int .i64 Bt, .slice A gs.length c] 25)).alloc (.cells #[.int .i64 g.kind, .slice D g.wires.length d, .int .i64 g.bit, .int .i64 g.ifn] 61) = wa at *
      generalize w.heap.size + 1 = Y at *
      obtain ⟨x0, x1, x2, xf⟩ := hx.three
      go_wp2_with fail
      with_reducible refine (HG.out _ hb0).mono ?_
      rintro e w1 ⟨rfl, hb1⟩
      have hb2 := bt hb1 hb0 hb0.size
      have hx2 := hx.below hb1 hx.lt
      have hy2 := hy.below hb1 hy.lt
      clear x0 x1 x2 xf hx hy hb0 hb1
      obtain ⟨x0, x1, x2, xf⟩ := hx2.three
      obtain ⟨y0, y1, y2, y3, yf⟩ := hy2.cells4
      go_wp2_with fail
      with_reducible refine (HO.out _ hb2).mono ?_
      rintro e w3 ⟨gv3, gw3, rfl, hg3, hG3, hb3⟩
      have k3 := hG3.gates
      rw [hg3] at k3
      obtain ⟨A3, c3, rfl, _⟩ := k3.form
      have hb3b := bt hb3 hb2 hb2.size
      have hx3 := hx2.below hb3 hx2.lt
      have hy3 := hy2.below hb3 hy2.lt
      have hbA := below1 w3 (.cells #[.int .i64 W, .int .i64 Bt, .slice A3 gs.length c3] 25)
      have hX := Blk.new w3 25 #[.int .i64 W, .int .i64 Bt, .slice A3 gs.length c3]
      have hx4 := hx3.below hbA hx3.lt
      have hy4 := hy3.below hbA hy3.lt
      have k4 := (k3.below hbA).more hbA.size
      have hb4 := bt hbA hb3b hb3b.size
      clear x0 x1 x2 xf y0 y1 y2 y3 yf hg3 hG3 hb3 hb3b hb2 hx2 hy2 hx3 hy3 k3 hbA
      go_upto_region 4 with fail
      generalize w3.alloc (.cells #[.int .i64 W, .int .i64 Bt, .slice A3 gs.length c3] 25) = w4 at *
      generalize w3.heap.size = X2 at *
      go_cut [6] from 26 to 35 (fun s6 wx => ∃ Y2 v2, s6 = .pointer (some ⟨Y2, 0, none⟩) ∧ QSt w wx w.heap.size Y W Bt gs g (.slice A gs.length c) (.slice D g.wires.length d) X2 Y2 (.slice A3 gs.length c3) v2)
      case first =>
        have hy5 := hy4.drew
        have hb5 : Below w.heap.size w w4.drew := hb4.drew
        have hzA := Blk.drew (Blk.new w4 61 #[.int .i64 0, .slice none 0 0, .int .i64 0, .int .i64 0])
        obtain ⟨y0, y1, y2, y3, yf⟩ := hy5.cells4
        have hyl4 : Y < w4.heap.size := hy4.lt
        go_region_held3 (fun W => W.cell? ⟨Y, 0, none⟩ = some (.int .i64 g.kind) ∧ W.cell? ⟨Y, 1, none⟩ = some (.slice D g.wires.length d) ∧ W.cell? ⟨Y, 2, none⟩ = some (.int .i64 g.bit) ∧ W.cell? ⟨Y, 3, none⟩ = some (.int .i64 g.ifn))
          ((with_reducible refine Blk.four (t := 61) ?_) <;> (repeat (first | (with_reducible exact hyc) | (with_reducible exact hy5) | (with_reducible exact hy4) | ((with_reducible refine Blk.far' ?_ _ ?_); (focus ((try dsimp only); omega))) | (with_reducible refine Blk.alloc ?_ _) | (with_reducible refine Blk.drew ?_))))
          (first
            | (go_at_call 70; (with_reducible refine (HC.out _ (by first | exact hb5 | exact (hb4.alloc hb4.size _).drew)).mono ?_); rintro e w5 ⟨v5, rfl, hw5, hb6⟩; obtain ⟨A5, c5, rfl⟩ := own_form hw5; have hyc : Blk w5 Y 61 #[.int .i64 g.kind, .slice D g.wires.length d, .int .i64 g.bit, .int .i64 g.ifn] := (by first | exact hy5.below hb6 hy5.lt | exact ((hy4.alloc _).drew).below hb6 ((hy4.alloc _).drew).lt); have hyl5 : Y < w5.heap.size := hyc.lt; have hzB := Blk.new w5 61 #[.int .i64 0, .slice none 0 0, .int .i64 0, .int .i64 0]; obtain ⟨q0, q1, q2, q3, qf⟩ := hzB.cells4; first | (have hz5 : Blk w5 w4.heap.size 61 #[.int .i64 0, .slice none 0 0, .int .i64 0, .int .i64 0] := hzA.below hb6 hzA.lt; obtain ⟨z0, z1, z2, z3, zf⟩ := hz5.cells4) | skip))
        all_goals
          go_wp2_with fail
          go_meet
          first
            | (have hbz := bt (below1 w5 (.cells #[.int .i64 g.kind, .slice A5 g.wires.length c5, .int .i64 g.bit, .int .i64 g.ifn] 61)) ((Below.refl w4.heap.size w4).drew.trans hb6) hb6.size
               exact ⟨w5.heap.size, _, rfl, hx4.below hbz hx4.lt, hy4.below hbz hy4.lt, hX.below hbz hX.lt, Blk.new w5 _ _, (k4.below hbz).more hbz.size, ((ints_own hw5).below (below1 w5 _)).more (below1 w5 _).size, hb4.trans (hbz.mono hb4.size)⟩)
            | (have hgp := grown_put4 w5 w4.heap.size (.int .i64 g.kind) (.slice A5 g.wires.length c5) (.int .i64 g.bit) (.int .i64 g.ifn)
               have hb46 : Below w4.heap.size w4 w5 := ((below1 w4 (.cells #[.int .i64 0, .slice none 0 0, .int .i64 0, .int .i64 0] 61)).drew).trans (hb6.mono (by simp))
               have hbz := below_grown' hb46 hgp (Nat.le_refl _)
               exact ⟨w4.heap.size, _, rfl, hx4.below hbz hx4.lt, hy4.below hbz hy4.lt, hX.below hbz hX.lt, hz5.put4, (k4.below hbz).more hbz.size, ints_own (hw5.kept hgp (.inr (own_blk_ne hw5 hz5 (by decide)))), hb4.trans (hbz.mono hb4.size)⟩)
      case rest =>
        obtain ⟨Y2, v2, rfl, h⟩ := hcut
        clear hx4 hy4 hX k4 hb4 HC HG HO d6
        have hY2 := h.m
        obtain ⟨A5, c5, rfl, _⟩ := hY2.form
        clear hY2
        have HPs := Lib.hid (fun W' hB hv ht => Print_calls W Bt (.slice A3 gs.length c3) gs W'.heap.size W' hB hv (fun g hg => Nat.le_trans (Hgw.out g hg) (by decide)) ht)
        have HSs := Lib.hid (fun W' hB hv ht => Show_calls g (.slice A5 g.wires.length c5) W'.heap.size W' hB hv ht)
        rw [Hsp.out] at HPs
        clear Hsp
        obtain ⟨er, her⟩ : ∃ x, Hid (chkC ⟨W, Bt, gs⟩ = x) := hidEx _
        obtain ⟨⟨sl, se⟩, hsh⟩ : ∃ x, Hid (sShow g = x) := hidEx _
        rw [her.out] at HK HPs
        rw [hsh.out] at HS HSs
        dsimp only at HS HSs
        have e1 : (er == er) = true := beq_self_eq_true _
        have e2 : (se == se) = true := beq_self_eq_true _
        have e3 : ((bs sl).toList == (bs sl).toList) = true := beq_self_eq_true _
        have HSm := Lib.hid (fun W' (h : GatesAt W' W'.heap.size (.slice A3 gs.length c3) gs) (h2 : GatesAt W' W'.heap.size (.slice A gs.length c) gs) => Same_same W Bt gs _ _ W'.heap.size W' (Nat.le_refl _) h h2 (fun g hg => Nat.le_trans (Hgw.out g hg) (by decide)))
        have HSg := Lib.hid (fun W' (h : IntsAt W' W'.heap.size (.slice D g.wires.length d) g.wires) (h2 : IntsAt W' W'.heap.size (.slice A5 g.wires.length c5) g.wires) => SameGate_same g _ _ W'.heap.size W' (Nat.le_refl _) h h2 h6')
        clear Hgw h6'
        obtain ⟨x0, x1, x2, xf⟩ := h.x.three
        go_wp2_with fail
        with_reducible refine (HK.out _ h.kept).mono ?_
        rintro e w7 ⟨rfl, hb7⟩
        have h7 := h.below hb7
        clear x0 x1 x2 xf h hb7
        by_cases he : er = 0
        · subst he
          rw [if_pos rfl] at HPs
          dsimp only at HPs
          have HP2 := Lib.hid (HP.out her.out)
          generalize printP ⟨W, Bt, gs⟩ = pr at *
          have e4 : ((bs pr).toList == (bs pr).toList) = true := beq_self_eq_true _
          clear HP her
          obtain ⟨x0, x1, x2, xf⟩ := h7.x.three
          go_wp2_with fail
          with_reducible refine (HP2.out _ h7.kept).mono ?_
          rintro e w8 ⟨rfl, hb8⟩
          have h8 := h7.below hb8
          clear x0 x1 x2 xf h7 hb8
          obtain ⟨y0, y1, y2, y3, yf⟩ := h8.y.cells4
          go_wp2_with fail
          with_reducible refine (HS.out _ h8.kept).mono ?_
          rintro e w9 ⟨rfl, hb9⟩
          have h9 := h8.below hb9
          clear y0 y1 y2 y3 yf h8 hb9
          obtain ⟨x0, x1, x2, xf⟩ := h9.x2.three
          go_wp2_with fail
          with_reducible refine (HPs.out _ (Nat.le_refl _) h9.k (HT.out.below h9.kept)).mono ?_
          rintro e w10 ⟨rfl, hb10⟩
          have h10 := h9.below hb10
          clear x0 x1 x2 xf h9 hb10
          obtain ⟨y0, y1, y2, y3, yf⟩ := h10.y2.cells4
          go_wp2_with fail
          with_reducible refine (HSs.out _ (Nat.le_refl _) h10.m (HT.out.below h10.kept)).mono ?_
          rintro e w11 ⟨rfl, hb11⟩
          have h11 := h10.below hb11
          clear y0 y1 y2 y3 yf h10 hb11
          obtain ⟨x0, x1, x2, xf⟩ := h11.x.three
          obtain ⟨u0, u1, u2, uf⟩ := h11.x2.three
          go_wp2_with fail
          with_reducible refine (HSm.out _ h11.k ((Hv.out.below h11.kept).more h11.kept.size)).mono ?_
          rintro e w12 ⟨rfl, hb12⟩
          have h12 := h11.below hb12
          clear x0 x1 x2 xf u0 u1 u2 uf h11 hb12
          obtain ⟨x0, x1, x2, x3, xf⟩ := h12.y.cells4
          obtain ⟨y0, y1, y2, y3, yf⟩ := h12.y2.cells4
          go_wp2_with fail
          with_reducible refine (HSg.out _ ((Hw.out.below h12.kept).more h12.kept.size) h12.m).mono ?_
          rintro e w13 ⟨rfl, hb13⟩
          have h13 := h12.below hb13
          go_wp2_with fail
          with_reducible refine (HA.out _ (HT.out.below h13.kept)).mono ?_
          rintro e w99 ⟨rfl, hb99⟩
          go_wp2_with fail
          go_ret
          exact ⟨rfl, bt hb99 h13.kept h13.kept.size⟩
        · rw [if_neg he] at HPs
          dsimp only at HPs
          have e4 : (bs ([] : List UInt8)).toList = [] := toList_ne []
          have he0 : (er == 0) = false := by simpa using he
          clear HP her he
          obtain ⟨y0, y1, y2, y3, yf⟩ := h7.y.cells4
          go_wp2_with fail
          with_reducible refine (HS.out _ h7.kept).mono ?_
          rintro e w8 ⟨rfl, hb8⟩
          have h8 := h7.below hb8
          clear y0 y1 y2 y3 yf h7 hb8
          obtain ⟨x0, x1, x2, xf⟩ := h8.x2.three
          go_wp2_with fail
          with_reducible refine (HPs.out _ (Nat.le_refl _) h8.k (HT.out.below h8.kept)).mono ?_
          rintro e w9 ⟨rfl, hb9⟩
          have h9 := h8.below hb9
          clear x0 x1 x2 xf h8 hb9
          obtain ⟨y0, y1, y2, y3, yf⟩ := h9.y2.cells4
          go_wp2_with fail
          with_reducible refine (HSs.out _ (Nat.le_refl _) h9.m (HT.out.below h9.kept)).mono ?_
          rintro e w10 ⟨rfl, hb10⟩
          have h10 := h9.below hb10
          clear y0 y1 y2 y3 yf h9 hb10
          obtain ⟨x0, x1, x2, xf⟩ := h10.x.three
          obtain ⟨u0, u1, u2, uf⟩ := h10.x2.three
          go_wp2_with fail
          with_reducible refine (HSm.out _ h10.k ((Hv.out.below h10.kept).more h10.kept.size)).mono ?_
          rintro e w11 ⟨rfl, hb11⟩
          have h11 := h10.below hb11
          clear x0 x1 x2 xf u0 u1 u2 uf h10 hb11
          obtain ⟨x0, x1, x2, x3, xf⟩ := h11.y.cells4
          obtain ⟨y0, y1, y2, y3, yf⟩ := h11.y2.cells4
          go_wp2_with fail
          with_reducible refine (HSg.out _ ((Hw.out.below h11.kept).more h11.kept.size) h11.m).mono ?_
          rintro e w12 ⟨rfl, hb12⟩
          have h12 := h11.below hb12
          go_wp2_with fail
          with_reducible refine (HA.out _ (HT.out.below h12.kept)).mono ?_
          rintro e w99 ⟨rfl, hb99⟩
          go_wp2_with fail
          go_ret
          exact ⟨rfl, bt hb99 h12.kept h12.kept.size⟩
  · clear hgb
    go_enter Tryz.func28, Tryz.ntmps28
    go_upto_region 1 with fail
    generalize (w.alloc (.cells #[.int .i64 W, .int .i64 Bt, .slice A gs.length c] 25)).alloc (.cells #[.int .i64 g.kind, .slice D g.wires.length d, .int .i64 g.bit, .int .i64 g.ifn] 61) = wa at *
    have x0 := hx.cell 0
    have x1 := hx.cell 1
    have x2 := hx.cell 2
    have xf := hx.frozen
    simp at x0 x1 x2
    go_wp2_with fail
    with_reducible refine (HG.out _ hb0).mono ?_
    rintro e w1 ⟨rfl, hb1⟩
    have hb2 := bt hb1 hb0 hb0.size
    go_wp2_with fail
    with_reducible refine (HA.out _ (HT.out.below hb2)).mono ?_
    rintro e w2 ⟨rfl, hb3⟩
    go_wp2_with fail
    go_ret
    exact ⟨rfl, bt hb3 hb2 hb2.size⟩
end Go.Proofs.YtonnegkpjmhomaaGreatDoor
end
section
set_option linter.all false
namespace Go.Proofs.YtonnegkpjmhomaaGreatDoor
open Go.RowKit
theorem laws_ok : LawsOk where
  toks s w hs ht := TextTokens_ok s.data.toList (by rw [Array.length_toList]; exact hs) w ht
  parses s w hs ht := TextParses_ok s.data.toList (by rw [Array.length_toList]; exact hs) w ht
  changes s u gate at_ w hs hu ht := TextChanges_ok s.data.toList u.data.toList (by rw [Array.length_toList]; exact hs) (by rw [Array.length_toList]; exact hu) gate at_ w ht
  prints := TextPrints_ok
  aw w ht := awake_calls w ht
end Go.Proofs.YtonnegkpjmhomaaGreatDoor
end
