import Derived.Test.YtonnegkpjmhomaaGreatDoorDSmall5
import Derived.Test.YtonnegkpjmhomaaGreatDoorDSmall8
set_option linter.all false
section
set_option linter.all false
namespace Go.Proofs.YtonnegkpjmhomaaGreatDoor
open Go.RowKit
theorem Equal_same (zs : List Int) (v1 v2 : Value) (B : Nat) (w : World) (h1 : IntsAt w B v1 zs) (h2 : IntsAt w B v2 zs) (hz : zs.length ≤ 1000000) :
    Calls Tryz.prog 98 #[v1, v2] w fun e w' => e = .returned (.bool true) ∧ Below w.heap.size w w' := by
  obtain ⟨A, c, rfl, _, _, hc⟩ := h1.form
  obtain ⟨A2, c2, rfl, _, _, hc2⟩ := h2.form
  by_cases hn : zs = []
  · subst hn
    refine (Tryz.slices_Equal_int_empty A A2 c 0 c2 w (by omega)).mono ?_
    rintro e w' ⟨rfl, rfl⟩
    exact ⟨rfl, Below.refl _ _⟩
  · obtain ⟨g, o, rfl, _, k1⟩ := hc hn
    obtain ⟨g2, o2, rfl, _, k2⟩ := hc2 hn
    refine (Tryz.slices_Equal_int g o zs.length c g2 o2 zs.length c2 zs zs w (Nat.le_refl _) (Nat.le_refl _) (by omega) (by omega) k1 k2).mono ?_
    rintro e w' ⟨rfl, q, rfl⟩
    exact ⟨by rw [beq_self_eq_true], belowN (Below.refl _ _) q⟩
set_option maxRecDepth 100000 in
set_option maxHeartbeats 4000000 in
theorem SameGate_same (g : Gt) (v1 v2 : Value) (B : Nat) (w : World) (hB : B ≤ w.heap.size) (h1 : IntsAt w B v1 g.wires) (h2 : IntsAt w B v2 g.wires) (hz : g.wires.length ≤ 1000000) :
    Calls Tryz.prog 52 #[.agg #[.int .i64 g.kind, v1, .int .i64 g.bit, .int .i64 g.ifn], .agg #[.int .i64 g.kind, v2, .int .i64 g.bit, .int .i64 g.ifn]] w fun e w' => e = .returned (.bool true) ∧ Below w.heap.size w w' := by
  obtain ⟨k, zs, b, f⟩ := g
  dsimp only at h1 h2 hz ⊢
  obtain ⟨A, c, rfl, _⟩ := h1.form
  obtain ⟨A2, c2, rfl, _⟩ := h2.form
  have hb := below2 w (.cells #[.int .i64 k, .slice A zs.length c, .int .i64 b, .int .i64 f] 61) (.cells #[.int .i64 k, .slice A2 zs.length c2, .int .i64 b, .int .i64 f] 61)
  have x := (Blk.new w 61 #[.int .i64 k, .slice A zs.length c, .int .i64 b, .int .i64 f]).alloc (.cells #[.int .i64 k, .slice A2 zs.length c2, .int .i64 b, .int .i64 f] 61)
  have y := Blk.at_ (w.alloc (.cells #[.int .i64 k, .slice A zs.length c, .int .i64 b, .int .i64 f] 61)) 61 #[.int .i64 k, .slice A2 zs.length c2, .int .i64 b, .int .i64 f] (n := w.heap.size + 1) (by simp)
  have HE := Lib.hid (Equal_same zs _ _ B _ (h1.below (hb.mono hB)) (h2.below (hb.mono hB)) hz)
  have ek : (k == k) = true := beq_self_eq_true k
  have eb : (b == b) = true := beq_self_eq_true b
  have ef : (f == f) = true := beq_self_eq_true f
  clear h1 h2
  go_enter Tryz.func52, Tryz.ntmps52
  go_upto_region 1 with fail
  generalize (w.alloc (.cells #[.int .i64 k, .slice A zs.length c, .int .i64 b, .int .i64 f] 61)).alloc (.cells #[.int .i64 k, .slice A2 zs.length c2, .int .i64 b, .int .i64 f] 61) = wa at *
  obtain ⟨x0, x1, x2, x3, xf⟩ := x.cells4
  obtain ⟨y0, y1, y2, y3, yf⟩ := y.cells4
  go_wp2_with fail
  refine HE.out.mono ?_
  rintro e w1 ⟨rfl, hb1⟩
  go_wp2_with fail
  go_ret
  exact ⟨rfl, bt hb1 hb hb.size⟩
set_option maxRecDepth 100000 in
set_option maxHeartbeats 8000000 in
theorem EqualFunc_same (gs : List Gt) (v1 v2 : Value) (B : Nat) (w : World) (hB : B ≤ w.heap.size) (h1 : GatesAt w B v1 gs) (h2 : GatesAt w B v2 gs) (hz : ∀ g ∈ gs, g.wires.length ≤ 1000000) :
    Calls Tryz.prog 51 #[v1, v2, .func (.func 52) #[] #[]] w fun e w' => e = .returned (.bool true) ∧ Below w.heap.size w w' := by
  have H1 := Lib.hid h1
  have H2 := Lib.hid h2
  have HB := Lib.hid hB
  obtain ⟨A, c, rfl, _, hc1, _⟩ := h1.form
  obtain ⟨A2, c2, rfl, _, hc2, _⟩ := h2.form
  unfold maxLen at hc1 hc2
  clear h1 h2 hB
  go_enter Tryz.func51, Tryz.ntmps51
  go_wp2_with fail
  go_loopg [17, 7, 8, 9] gs.length (fun gk s17 _ _ _ wr => ∃ n : Nat, n + gk = gs.length ∧ s17 = .int .i64 n ∧ Below w.heap.size w wr)
  case atStart => exact ⟨0, by omega, rfl, Below.refl _ _⟩
  case round =>
    obtain ⟨n, hn, rfl, hb⟩ := hrel
    cases gk with
    | zero =>
      obtain rfl : n = gs.length := by omega
      go_wp2_with fail
      go_ret
      exact ⟨rfl, hb⟩
    | succ gk =>
      have hlt : n < gs.length := by omega
      have k1 := H1.out.below (hb.mono HB.out)
      have k2 := H2.out.below (hb.mono HB.out)
      obtain ⟨A', c', e1, _, _, h3⟩ := k1.form
      injection e1 with e1 _ e3
      subst e1 e3
      obtain ⟨b, o, rfl, hbB, hcell⟩ := h3 (by intro h0; subst h0; simp at hlt)
      obtain ⟨A', c', e1, _, _, h4⟩ := k2.form
      injection e1 with e1 _ e3
      subst e1 e3
      obtain ⟨b', o', rfl, hbB', hcell'⟩ := h4 (by intro h0; subst h0; simp at hlt)
      obtain ⟨g, hgm⟩ : ∃ g, gs[n]? = some g := ⟨gs[n], List.getElem?_eq_getElem hlt⟩
      obtain ⟨wv, hwv, x0, x1, x2, x3⟩ := hcell n g hgm
      obtain ⟨wv', hwv', y0, y1, y2, y3⟩ := hcell' n g hgm
      have hgl := hz g (List.mem_of_getElem? hgm)
      obtain ⟨D, d, rfl, _⟩ := hwv.form
      obtain ⟨D', d', rfl, _⟩ := hwv'.form
      have hbz := hb.size
      have hbB2 := HB.out
      have hlk : (n : Int) < (gs.length : Int) := by omega
      have hl0 : (0 : Int) ≤ (n : Int) := by omega
      have hbw : b < wr.heap.size := by omega
      have hbw' : b' < wr.heap.size := by omega
      have hbn : b ≠ wr.heap.size := by omega
      have hbn' : b' ≠ wr.heap.size := by omega
      have hb2 := (hb.alloc hb.size (.cells #[.int .i64 g.kind, .slice D g.wires.length d, .int .i64 g.bit, .int .i64 g.ifn] 61)).alloc (by simp; omega) (.cells #[.int .i64 g.kind, .slice D' g.wires.length d', .int .i64 g.bit, .int .i64 g.ifn] 61)
      have hbS := below2 wr (.cells #[.int .i64 g.kind, .slice D g.wires.length d, .int .i64 g.bit, .int .i64 g.ifn] 61) (.cells #[.int .i64 g.kind, .slice D' g.wires.length d', .int .i64 g.bit, .int .i64 g.ifn] 61)
      have HS := Lib.hid (SameGate_same g (.slice D g.wires.length d) (.slice D' g.wires.length d') B ((wr.alloc (.cells #[.int .i64 g.kind, .slice D g.wires.length d, .int .i64 g.bit, .int .i64 g.ifn] 61)).alloc (.cells #[.int .i64 g.kind, .slice D' g.wires.length d', .int .i64 g.bit, .int .i64 g.ifn] 61)) (by simp; omega) (hwv.below (hbS.mono (by omega))) (hwv'.below (hbS.mono (by omega))) hgl)
      clear hcell hcell' h3 h4 hwv hwv' k1 k2 hgm
      go_wp2_with fail
      refine HS.out.mono ?_
      rintro e w1 ⟨rfl, hb1⟩
      have hb3 := bt hb1 hb2 hb2.size
      clear hb1 hb2 HS x0 x1 x2 x3 y0 y1 y2 y3
      go_wp2_with fail
      go_roundg gk
      case measure => omega
      case rel => exact ⟨n + 1, by omega, by go_num, hb3⟩
set_option maxRecDepth 100000 in
set_option maxHeartbeats 4000000 in
theorem Same_same (W Bt : Int) (gs : List Gt) (v1 v2 : Value) (B : Nat) (w : World) (hB : B ≤ w.heap.size) (h1 : GatesAt w B v1 gs) (h2 : GatesAt w B v2 gs) (hz : ∀ g ∈ gs, g.wires.length ≤ 1000000) :
    Calls Tryz.prog 19 #[.agg #[.int .i64 W, .int .i64 Bt, v1], .agg #[.int .i64 W, .int .i64 Bt, v2]] w fun e w' => e = .returned (.bool true) ∧ Below w.heap.size w w' := by
  obtain ⟨A, c, rfl, _⟩ := h1.form
  obtain ⟨A2, c2, rfl, _⟩ := h2.form
  have hb := below2 w (.cells #[.int .i64 W, .int .i64 Bt, .slice A gs.length c] 25) (.cells #[.int .i64 W, .int .i64 Bt, .slice A2 gs.length c2] 25)
  have x := (Blk.new w 25 #[.int .i64 W, .int .i64 Bt, .slice A gs.length c]).alloc (.cells #[.int .i64 W, .int .i64 Bt, .slice A2 gs.length c2] 25)
  have y := Blk.at_ (w.alloc (.cells #[.int .i64 W, .int .i64 Bt, .slice A gs.length c] 25)) 25 #[.int .i64 W, .int .i64 Bt, .slice A2 gs.length c2] (n := w.heap.size + 1) (by simp)
  have HE := Lib.hid (EqualFunc_same gs _ _ B _ (by simp; omega) (h1.below (hb.mono hB)) (h2.below (hb.mono hB)) hz)
  have ek : (W == W) = true := beq_self_eq_true W
  have eb : (Bt == Bt) = true := beq_self_eq_true Bt
  clear h1 h2
  go_enter Tryz.func19, Tryz.ntmps19
  go_upto_region 1 with fail
  generalize (w.alloc (.cells #[.int .i64 W, .int .i64 Bt, .slice A gs.length c] 25)).alloc (.cells #[.int .i64 W, .int .i64 Bt, .slice A2 gs.length c2] 25) = wa at *
  have x0 := x.cell 0
  have x1 := x.cell 1
  have x2 := x.cell 2
  have xf := x.frozen
  have y0 := y.cell 0
  have y1 := y.cell 1
  have y2 := y.cell 2
  have yf := y.frozen
  simp at x0 x1 x2 y0 y1 y2
  go_wp2_with fail
  refine HE.out.mono ?_
  rintro e w1 ⟨rfl, hb1⟩
  go_wp2_with fail
  go_ret
  exact ⟨rfl, bt hb1 hb hb.size⟩
end Go.Proofs.YtonnegkpjmhomaaGreatDoor
end
