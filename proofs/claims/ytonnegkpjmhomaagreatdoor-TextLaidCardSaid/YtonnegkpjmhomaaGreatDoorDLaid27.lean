import Derived.Lib.SplitLaws
import Derived.Lib.CountLaws
import Derived.Lib.IndexBytes
import Derived.Test.YtonnegkpjmhomaaGreatDoorDLaid5
import Derived.Test.YtonnegkpjmhomaaGreatDoorDLaid8
import Derived.Test.YtonnegkpjmhomaaGreatDoorDLaid18
set_option linter.all false
section
set_option linter.all false
namespace Go.Proofs.YtonnegkpjmhomaaGreatDoor
open Go.RowKit
theorem Equal_gen (xs ys : List Int) (v1 v2 : Value) (B : Nat) (w : World) (h1 : IntsAt w B v1 xs) (h2 : IntsAt w B v2 ys) (hl : xs.length = ys.length) (hz : xs.length ≤ 1000000) :
    Calls Tryz.prog 98 #[v1, v2] w fun e w' => e = .returned (.bool (decide (xs = ys))) ∧ Below w.heap.size w w' := by
  obtain ⟨A, c, rfl, _, _, hc⟩ := h1.form
  obtain ⟨A2, c2, rfl, _, _, hc2⟩ := h2.form
  by_cases hn : xs = []
  · subst hn
    have hy : ys = [] := List.length_eq_zero_iff.1 hl.symm
    subst hy
    refine (Tryz.slices_Equal_int_empty A A2 c 0 c2 w (by omega)).mono ?_
    rintro e w' ⟨rfl, rfl⟩
    exact ⟨rfl, Below.refl _ _⟩
  · have hy : ys ≠ [] := by intro e; subst e; exact hn (List.length_eq_zero_iff.1 hl)
    obtain ⟨g, o, rfl, _, k1⟩ := hc hn
    obtain ⟨g2, o2, rfl, _, k2⟩ := hc2 hy
    refine (Tryz.slices_Equal_int g o xs.length c g2 o2 ys.length c2 xs ys w (Nat.le_refl _) (Nat.le_refl _) (by omega) (by omega) k1 k2).mono ?_
    rintro e w' ⟨rfl, q, rfl⟩
    exact ⟨by rw [List.take_length, List.take_length]; congr 2; exact (by rw [Bool.eq_iff_iff]; simp), belowN (Below.refl _ _) q⟩
theorem ret_bool {a b : Bool} (h : a = b) : Ending.returned (.bool a) = .returned (.bool b) := by rw [h]
set_option maxRecDepth 100000 in
set_option maxHeartbeats 8000000 in
theorem SameGate_gen (g h : Gt) (v1 v2 : Value) (B : Nat) (w : World) (hB : B ≤ w.heap.size) (h1 : IntsAt w B v1 g.wires) (h2 : IntsAt w B v2 h.wires) (hl : g.kind = h.kind → g.wires.length = h.wires.length) (hz : g.wires.length ≤ 1000000) :
    Calls Tryz.prog 52 #[.agg #[.int .i64 g.kind, v1, .int .i64 g.bit, .int .i64 g.ifn], .agg #[.int .i64 h.kind, v2, .int .i64 h.bit, .int .i64 h.ifn]] w fun e w' => e = .returned (.bool (decide (g = h))) ∧ Below w.heap.size w w' := by
  obtain ⟨k, zs, b, f⟩ := g
  obtain ⟨k2, zs2, b2, f2⟩ := h
  dsimp only at h1 h2 hz hl ⊢
  obtain ⟨A, c, rfl, _⟩ := h1.form
  obtain ⟨A2, c2, rfl, _⟩ := h2.form
  have hb := below2 w (.cells #[.int .i64 k, .slice A zs.length c, .int .i64 b, .int .i64 f] 61) (.cells #[.int .i64 k2, .slice A2 zs2.length c2, .int .i64 b2, .int .i64 f2] 61)
  have x := (Blk.new w 61 #[.int .i64 k, .slice A zs.length c, .int .i64 b, .int .i64 f]).alloc (.cells #[.int .i64 k2, .slice A2 zs2.length c2, .int .i64 b2, .int .i64 f2] 61)
  have y := Blk.at_ (w.alloc (.cells #[.int .i64 k, .slice A zs.length c, .int .i64 b, .int .i64 f] 61)) 61 #[.int .i64 k2, .slice A2 zs2.length c2, .int .i64 b2, .int .i64 f2] (n := w.heap.size + 1) (by simp)
  have HE := Lib.hid (fun hh : zs.length = zs2.length => Equal_gen zs zs2 _ _ B _ (h1.below (hb.mono hB)) (h2.below (hb.mono hB)) hh hz)
  obtain ⟨r, hr⟩ : ∃ r, Hid (decide ((⟨k, zs, b, f⟩ : Gt) = ⟨k2, zs2, b2, f2⟩) = r) := ⟨_, rfl⟩
  rw [hr.out]
  have hno : ¬ (k = k2 ∧ b = b2 ∧ f = f2) → r = false := fun hn => by
    rw [← hr.out]
    exact decide_eq_false (fun e => by injection e with e1 e2 e3 e4; exact hn ⟨e1, e3, e4⟩)
  have HN := Lib.hid hno
  have HL := Lib.hid hl
  clear h1 h2 hno hl
  go_enter Tryz.func52, Tryz.ntmps52
  go_upto_region 1 with fail
  generalize (w.alloc (.cells #[.int .i64 k, .slice A zs.length c, .int .i64 b, .int .i64 f] 61)).alloc (.cells #[.int .i64 k2, .slice A2 zs2.length c2, .int .i64 b2, .int .i64 f2] 61) = wa at *
  obtain ⟨x0, x1, x2, x3, xf⟩ := x.cells4
  obtain ⟨y0, y1, y2, y3, yf⟩ := y.cells4
  by_cases e1 : k = k2
  · have d1 : (k == k2) = true := by simpa using e1
    by_cases e2 : b = b2
    · have d2 : (b == b2) = true := by simpa using e2
      by_cases e3 : f = f2
      · have d3 : (f == f2) = true := by simpa using e3
        have Hr : Hid (r = decide (zs = zs2)) := by
          show _ = _
          rw [← hr.out]
          subst e1 e2 e3
          rw [Bool.eq_iff_iff]
          simp
        have HEE := Lib.hid (HE.out (HL.out e1))
        have HD := Lib.hid (And.intro e1 (And.intro e2 e3))
        clear e1 e2 e3
        go_wp2_with fail
        refine HEE.out.mono ?_
        rintro e w1 ⟨rfl, hb1⟩
        go_wp2_with fail
        go_ret
        exact ⟨ret_bool Hr.out.symm, bt hb1 hb hb.size⟩
      · have d3 : (f == f2) = false := by simpa using e3
        have Hr := Lib.hid (HN.out (fun h => e3 h.2.2))
        clear e1 e2 e3
        go_wp2_with fail
        go_ret
        exact ⟨ret_bool Hr.out.symm, hb⟩
    · have d2 : (b == b2) = false := by simpa using e2
      have Hr := Lib.hid (HN.out (fun h => e2 h.2.1))
      clear e1 e2
      go_wp2_with fail
      go_ret
      exact ⟨ret_bool Hr.out.symm, hb⟩
  · have d1 : (k == k2) = false := by simpa using e1
    have Hr := Lib.hid (HN.out (fun h => e1 h.1))
    clear e1
    go_wp2_with fail
    go_ret
    exact ⟨ret_bool Hr.out.symm, hb⟩
def KindLen (gs hs : List Gt) : Prop := ∀ g ∈ gs, ∀ h ∈ hs, g.kind = h.kind → g.wires.length = h.wires.length
set_option maxRecDepth 100000 in
set_option maxHeartbeats 8000000 in
theorem EqualFunc_gen (gs hs : List Gt) (v1 v2 : Value) (B : Nat) (w : World) (hB : B ≤ w.heap.size) (h1 : GatesAt w B v1 gs) (h2 : GatesAt w B v2 hs) (hk : KindLen gs hs) (hz : ∀ g ∈ gs, g.wires.length ≤ 1000000) :
    Calls Tryz.prog 51 #[v1, v2, .func (.func 52) #[] #[]] w fun e w' => e = .returned (.bool (decide (gs = hs))) ∧ Below w.heap.size w w' := by
  have H1 := Lib.hid h1
  have H2 := Lib.hid h2
  have HB := Lib.hid hB
  have HK := Lib.hid hk
  obtain ⟨A, c, rfl, _, hc1, _⟩ := h1.form
  obtain ⟨A2, c2, rfl, _, hc2, _⟩ := h2.form
  unfold maxLen at hc1 hc2
  obtain ⟨r, hr⟩ : ∃ r, Hid (decide (gs = hs) = r) := ⟨_, rfl⟩
  rw [hr.out]
  by_cases hl : gs.length = hs.length
  · have hlen : ((gs.length : Int) == (hs.length : Int)) = true := by rw [hl]; exact beq_self_eq_true _
    have hlen2 : ((gs.length : Int) != (hs.length : Int)) = false := by rw [hl]; exact bne_self_eq_false _
    have HL := Lib.hid hl
    clear h1 h2 hB hk hl
    go_enter Tryz.func51, Tryz.ntmps51
    go_wp2_with fail
    go_loopg [17, 7, 8, 9] gs.length (fun gk s17 _ _ _ wr => ∃ n : Nat, n + gk = gs.length ∧ s17 = .int .i64 n ∧ Hid (r = decide (gs.drop n = hs.drop n)) ∧ Below w.heap.size w wr)
    case atStart => exact ⟨0, by omega, rfl, hr.out.symm, Below.refl _ _⟩
    case round =>
      obtain ⟨n, hn, rfl, Hn, hb⟩ := hrel
      cases gk with
      | zero =>
        obtain rfl : n = gs.length := by omega
        have Hr : Hid (r = true) := by
          show _ = _
          rw [Hn.out, List.drop_length, List.drop_of_length_le (by have := HL.out; omega)]
          rfl
        go_wp2_with fail
        go_ret
        exact ⟨ret_bool Hr.out.symm, hb⟩
      | succ gk =>
        have hlt : n < gs.length := by omega
        have hlt2 : n < hs.length := by have := HL.out; omega
        have k1 := H1.out.below (hb.mono HB.out)
        have k2 := H2.out.below (hb.mono HB.out)
        obtain ⟨A', c', e1, _, _, h3⟩ := k1.form
        injection e1 with e1 _ e3
        subst e1 e3
        obtain ⟨b, o, rfl, hbB, hcell⟩ := h3 (by intro h0; subst h0; simp at hlt)
        obtain ⟨A', c', e1, _, _, h4⟩ := k2.form
        injection e1 with e1 _ e3
        subst e1 e3
        obtain ⟨b', o', rfl, hbB', hcell'⟩ := h4 (by intro h0; subst h0; simp at hlt2)
        obtain ⟨g, Hg, hgm⟩ : ∃ g, Hid (gs.drop n = g :: gs.drop (n + 1)) ∧ gs[n]? = some g := ⟨gs[n], List.drop_eq_getElem_cons hlt, List.getElem?_eq_getElem hlt⟩
        obtain ⟨h, Hh, hhm⟩ : ∃ h, Hid (hs.drop n = h :: hs.drop (n + 1)) ∧ hs[n]? = some h := ⟨hs[n], List.drop_eq_getElem_cons hlt2, List.getElem?_eq_getElem hlt2⟩
        obtain ⟨wv, hwv, x0, x1, x2, x3⟩ := hcell n g hgm
        obtain ⟨wv', hwv', y0, y1, y2, y3⟩ := hcell' n h hhm
        have hgl := hz g (List.mem_of_getElem? hgm)
        have hkl := HK.out g (List.mem_of_getElem? hgm) h (List.mem_of_getElem? hhm)
        obtain ⟨D, d, rfl, _⟩ := hwv.form
        obtain ⟨D', d', rfl, _⟩ := hwv'.form
        have hbz := hb.size
        have hbB2 := HB.out
        have hlk : (n : Int) < (gs.length : Int) := by omega
        have hlk2 : (n : Int) < (hs.length : Int) := by omega
        have hl0 : (0 : Int) ≤ (n : Int) := by omega
        have hbw : b < wr.heap.size := by omega
        have hbw' : b' < wr.heap.size := by omega
        have hbn : b ≠ wr.heap.size := by omega
        have hbn' : b' ≠ wr.heap.size := by omega
        have hb2 := (hb.alloc hb.size (.cells #[.int .i64 g.kind, .slice D g.wires.length d, .int .i64 g.bit, .int .i64 g.ifn] 61)).alloc (by simp; omega) (.cells #[.int .i64 h.kind, .slice D' h.wires.length d', .int .i64 h.bit, .int .i64 h.ifn] 61)
        have hbS := below2 wr (.cells #[.int .i64 g.kind, .slice D g.wires.length d, .int .i64 g.bit, .int .i64 g.ifn] 61) (.cells #[.int .i64 h.kind, .slice D' h.wires.length d', .int .i64 h.bit, .int .i64 h.ifn] 61)
        have HS := Lib.hid (SameGate_gen g h (.slice D g.wires.length d) (.slice D' h.wires.length d') B ((wr.alloc (.cells #[.int .i64 g.kind, .slice D g.wires.length d, .int .i64 g.bit, .int .i64 g.ifn] 61)).alloc (.cells #[.int .i64 h.kind, .slice D' h.wires.length d', .int .i64 h.bit, .int .i64 h.ifn] 61)) (by simp; omega) (hwv.below (hbS.mono (by omega))) (hwv'.below (hbS.mono (by omega))) hkl hgl)
        clear hcell hcell' h3 h4 hwv hwv' k1 k2 hgm hhm hkl
        have Hcons : Hid (r = (decide (g = h) && decide (gs.drop (n + 1) = hs.drop (n + 1)))) := by
          show _ = _
          rw [Hn.out, Hg.out, Hh.out, Bool.eq_iff_iff]
          simp
        obtain ⟨q, hq⟩ : ∃ q, Hid (decide (g = h) = q) := ⟨_, rfl⟩
        rw [hq.out] at HS Hcons
        cases q
        · have Hr : Hid (r = false) := Hcons
          go_wp2_with fail
          refine HS.out.mono ?_
          rintro e w1 ⟨rfl, hb1⟩
          have hb3 := bt hb1 hb2 hb2.size
          clear hb1 hb2 HS x0 x1 x2 x3 y0 y1 y2 y3
          go_wp2_with fail
          go_ret
          exact ⟨ret_bool Hr.out.symm, hb3⟩
        · have Hr : Hid (r = decide (gs.drop (n + 1) = hs.drop (n + 1))) := Hcons
          go_wp2_with fail
          refine HS.out.mono ?_
          rintro e w1 ⟨rfl, hb1⟩
          have hb3 := bt hb1 hb2 hb2.size
          clear hb1 hb2 HS x0 x1 x2 x3 y0 y1 y2 y3
          go_wp2_with fail
          go_roundg gk
          case measure => omega
          case rel => exact ⟨n + 1, by omega, by go_num, Hr, hb3⟩
  · have hlen2 : ((gs.length : Int) != (hs.length : Int)) = true := by rw [bne_iff_ne]; omega
    have Hr : Hid (r = false) := by
      show _ = _
      rw [← hr.out]
      exact decide_eq_false (fun e => hl (by rw [e]))
    clear h1 h2 hB hk hl
    go_enter Tryz.func51, Tryz.ntmps51
    go_wp2_with fail
    go_ret
    exact ⟨ret_bool Hr.out.symm, Below.refl _ _⟩
set_option maxRecDepth 100000 in
set_option maxHeartbeats 4000000 in
theorem Same_gen (c d : Ct) (v1 v2 : Value) (B : Nat) (w : World) (hB : B ≤ w.heap.size) (h1 : GatesAt w B v1 c.gates) (h2 : GatesAt w B v2 d.gates) (hk : KindLen c.gates d.gates) (hz : ∀ g ∈ c.gates, g.wires.length ≤ 1000000) :
    Calls Tryz.prog 19 #[.agg #[.int .i64 c.wires, .int .i64 c.bits, v1], .agg #[.int .i64 d.wires, .int .i64 d.bits, v2]] w fun e w' => e = .returned (.bool (decide (c = d))) ∧ Below w.heap.size w w' := by
  obtain ⟨W, Bt, gs⟩ := c
  obtain ⟨W2, Bt2, hs⟩ := d
  dsimp only at h1 h2 hk hz ⊢
  obtain ⟨A, c, rfl, _⟩ := h1.form
  obtain ⟨A2, c2, rfl, _⟩ := h2.form
  have hb := below2 w (.cells #[.int .i64 W, .int .i64 Bt, .slice A gs.length c] 25) (.cells #[.int .i64 W2, .int .i64 Bt2, .slice A2 hs.length c2] 25)
  have x := (Blk.new w 25 #[.int .i64 W, .int .i64 Bt, .slice A gs.length c]).alloc (.cells #[.int .i64 W2, .int .i64 Bt2, .slice A2 hs.length c2] 25)
  have y := Blk.at_ (w.alloc (.cells #[.int .i64 W, .int .i64 Bt, .slice A gs.length c] 25)) 25 #[.int .i64 W2, .int .i64 Bt2, .slice A2 hs.length c2] (n := w.heap.size + 1) (by simp)
  have HE := Lib.hid (EqualFunc_gen gs hs _ _ B _ (by simp; omega) (h1.below (hb.mono hB)) (h2.below (hb.mono hB)) hk hz)
  obtain ⟨r, hr⟩ : ∃ r, Hid (decide ((⟨W, Bt, gs⟩ : Ct) = ⟨W2, Bt2, hs⟩) = r) := ⟨_, rfl⟩
  rw [hr.out]
  have hno : ¬ (W = W2 ∧ Bt = Bt2) → r = false := fun hn => by
    rw [← hr.out]
    exact decide_eq_false (fun e => by injection e with e1 e2 e3; exact hn ⟨e1, e2⟩)
  have HN := Lib.hid hno
  clear h1 h2 hno hk
  go_enter Tryz.func19, Tryz.ntmps19
  go_upto_region 1 with fail
  generalize (w.alloc (.cells #[.int .i64 W, .int .i64 Bt, .slice A gs.length c] 25)).alloc (.cells #[.int .i64 W2, .int .i64 Bt2, .slice A2 hs.length c2] 25) = wa at *
  have x0 := x.cell 0
  have x1 := x.cell 1
  have x2 := x.cell 2
  have xf := x.frozen
  have y0 := y.cell 0
  have y1 := y.cell 1
  have y2 := y.cell 2
  have yf := y.frozen
  simp at x0 x1 x2 y0 y1 y2
  by_cases e1 : W = W2
  · have d1 : (W == W2) = true := by simpa using e1
    by_cases e2 : Bt = Bt2
    · have d2 : (Bt == Bt2) = true := by simpa using e2
      have Hr : Hid (r = decide (gs = hs)) := by
        show _ = _
        rw [← hr.out]
        subst e1 e2
        rw [Bool.eq_iff_iff]
        simp
      clear e1 e2
      go_wp2_with fail
      refine HE.out.mono ?_
      rintro e w1 ⟨rfl, hb1⟩
      go_wp2_with fail
      go_ret
      exact ⟨ret_bool Hr.out.symm, bt hb1 hb hb.size⟩
    · have d2 : (Bt == Bt2) = false := by simpa using e2
      have Hr := Lib.hid (HN.out (fun h => e2 h.2))
      clear e1 e2
      go_wp2_with fail
      go_ret
      exact ⟨ret_bool Hr.out.symm, hb⟩
  · have d1 : (W == W2) = false := by simpa using e1
    have Hr := Lib.hid (HN.out (fun h => e1 h.1))
    clear e1
    go_wp2_with fail
    go_ret
    exact ⟨ret_bool Hr.out.symm, hb⟩
end Go.Proofs.YtonnegkpjmhomaaGreatDoor
end
