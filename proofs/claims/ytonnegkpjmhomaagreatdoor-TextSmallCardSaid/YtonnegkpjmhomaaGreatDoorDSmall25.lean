import Derived.Deep.RegionHeld3
import Derived.Test.YtonnegkpjmhomaaGreatDoorDSmall9
import Derived.Test.YtonnegkpjmhomaaGreatDoorDSmall21
set_option linter.all false
section
set_option linter.all false
namespace Go.Proofs.YtonnegkpjmhomaaGreatDoor
open Go.RowKit
theorem Great1_calls (g : Gt) (wv : Value) (B : Nat) (w : World) (hv : IntsAt w B wv g.wires) :
    Calls Tryz.prog 113 #[.agg #[.int .i64 g.kind, wv, .int .i64 g.bit, .int .i64 g.ifn]] w fun e w' => e = .returned (.bool (decide (6 < (g.wires.length : Int)))) ∧ Below w.heap.size w w' := by
  obtain ⟨A, c, rfl, _⟩ := hv.form
  have hb := below1 w (.cells #[.int .i64 g.kind, .slice A g.wires.length c, .int .i64 g.bit, .int .i64 g.ifn] 61)
  go_enter Tryz.func113, Tryz.ntmps113
  go_wp2_with fail
  go_ret
  exact ⟨rfl, hb⟩
def manyW (g : Gt) : Bool := decide (6 < (g.wires.length : Int))
set_option maxRecDepth 100000 in
set_option maxHeartbeats 4000000 in
theorem indexGreat_calls (gs : List Gt) (v : Value) (B : Nat) (w : World) (hB : B ≤ w.heap.size) (hv : GatesAt w B v gs) :
    Calls Tryz.prog 153 #[v, .func (.func 113) #[] #[]] w fun e w' => ∃ r : Int, e = .returned (.int .i64 r) ∧ gs.any manyW = decide (0 ≤ r) ∧ Below w.heap.size w w' := by
  have H1 := Lib.hid hv
  have HB := Lib.hid hB
  obtain ⟨A, c, rfl, _, hc1, _⟩ := hv.form
  unfold maxLen at hc1
  obtain ⟨an, han⟩ : ∃ x, Hid (gs.any manyW = x) := ⟨_, rfl⟩
  rw [han.out]
  clear hv hB
  go_enter Tryz.func153, Tryz.ntmps153
  go_wp2_with fail
  go_loopg [8, 5] gs.length (fun gk s8 _ wr => ∃ n : Nat, n + gk = gs.length ∧ s8 = .int .i64 n ∧ Hid (an = (gs.drop n).any manyW) ∧ Below w.heap.size w wr)
  case atStart => exact ⟨0, by omega, rfl, han.out.symm, Below.refl _ _⟩
  case round =>
    clear han
    obtain ⟨n, hn, rfl, Hn, hb⟩ := hrel
    cases gk with
    | zero =>
      obtain rfl : n = gs.length := by omega
      have Hr : Hid (an = false) := by show _ = _; rw [Hn.out, List.drop_length]; rfl
      go_wp2_with fail
      go_ret
      exact ⟨_, rfl, by rw [Hr.out]; rfl, hb⟩
    | succ gk =>
      have hlt : n < gs.length := by omega
      have k1 := H1.out.below (hb.mono HB.out)
      obtain ⟨A', c', e1, _, _, h3⟩ := k1.form
      injection e1 with e1 _ e3
      subst e1 e3
      obtain ⟨b, o, rfl, hbB, hcell⟩ := h3 (by intro h0; subst h0; simp at hlt)
      obtain ⟨g, Hg, hgm⟩ : ∃ g, Hid (gs.drop n = g :: gs.drop (n + 1)) ∧ gs[n]? = some g := ⟨gs[n], by show gs.drop n = _; rw [List.drop_eq_getElem_cons hlt], List.getElem?_eq_getElem hlt⟩
      obtain ⟨wv, hwv, x0, x1, x2, x3⟩ := hcell n g hgm
      obtain ⟨D, d, rfl, _⟩ := hwv.form
      have HGr := Lib.hid (Great1_calls g _ B wr hwv)
      have Hm : Hid (manyW g = decide (6 < (g.wires.length : Int))) := rfl
      have hlk : (n : Int) < (gs.length : Int) := by omega
      have hl0 : (0 : Int) ≤ (n : Int) := by omega
      clear hcell h3 hwv k1 hgm
      cases hq : decide (6 < (g.wires.length : Int))
      · have Hr : Hid (an = (gs.drop (n + 1)).any manyW) := by show _ = _; rw [Hn.out, Hg.out, List.any_cons, Hm.out, hq]; rfl
        rw [hq] at HGr
        clear hq Hm
        go_wp2_with fail
        with_reducible refine HGr.out.mono ?_
        rintro e w1 ⟨rfl, hb1⟩
        have hb3 := bt hb1 hb hb.size
        clear hb1 HGr x0 x1 x2 x3
        go_wp2_with fail
        go_roundg gk
        case measure => omega
        case rel => exact ⟨n + 1, by omega, by go_num, Hr, hb3⟩
      · have Hr : Hid (an = true) := by show _ = _; rw [Hn.out, Hg.out, List.any_cons, Hm.out, hq]; rfl
        rw [hq] at HGr
        clear hq Hm
        go_wp2_with fail
        with_reducible refine HGr.out.mono ?_
        rintro e w1 ⟨rfl, hb1⟩
        go_wp2_with fail
        go_ret
        exact ⟨_, rfl, by rw [Hr.out, decide_eq_true hl0], bt hb1 hb hb.size⟩
def greatB (gs : List Gt) : Bool := decide (130 < (gs.length : Int)) || gs.any manyW
set_option maxRecDepth 100000 in
set_option maxHeartbeats 4000000 in
theorem Great_calls (W Bt : Int) (gs : List Gt) (v : Value) (B : Nat) (w : World) (hB : B ≤ w.heap.size) (hv : GatesAt w B v gs) :
    Calls Tryz.prog 69 #[.agg #[.int .i64 W, .int .i64 Bt, v]] w fun e w' => e = .returned (.bool (greatB gs)) ∧ Below w.heap.size w w' := by
  obtain ⟨A, c, rfl, _⟩ := hv.form
  have hb := below1 w (.cells #[.int .i64 W, .int .i64 Bt, .slice A gs.length c] 25)
  have hx := Blk.new w 25 #[.int .i64 W, .int .i64 Bt, .slice A gs.length c]
  have HI := Lib.hid (indexGreat_calls gs _ B _ (by simp; omega) (hv.below (hb.mono hB)))
  by_cases h : 130 < (gs.length : Int)
  · have Hv : Hid (greatB gs = true) := by show _ = _; unfold greatB; rw [decide_eq_true h]; rfl
    have ed : decide (130 < (gs.length : Int)) = true := decide_eq_true h
    rw [Hv.out]
    clear HI hv
    go_enter Tryz.func69, Tryz.ntmps69
    go_upto_region 1 with fail
    generalize w.alloc (.cells #[.int .i64 W, .int .i64 Bt, .slice A gs.length c] 25) = wa at *
    have x0 := hx.cell 0
    have x1 := hx.cell 1
    have x2 := hx.cell 2
    have xf := hx.frozen
    simp at x0 x1 x2
    go_wp2_with fail
    go_ret
    exact ⟨rfl, hb⟩
  · have Hv : Hid (greatB gs = gs.any manyW) := by show _ = _; unfold greatB; rw [decide_eq_false h]; rfl
    have ed : decide (130 < (gs.length : Int)) = false := decide_eq_false h
    rw [Hv.out]
    obtain ⟨an, han⟩ : ∃ x, gs.any manyW = x := ⟨_, rfl⟩
    rw [han] at HI ⊢
    clear hv han
    go_enter Tryz.func69, Tryz.ntmps69
    go_upto_region 1 with fail
    generalize w.alloc (.cells #[.int .i64 W, .int .i64 Bt, .slice A gs.length c] 25) = wa at *
    have x0 := hx.cell 0
    have x1 := hx.cell 1
    have x2 := hx.cell 2
    have xf := hx.frozen
    simp at x0 x1 x2
    go_wp2_with (go_at_call 112; go_in)
    with_reducible refine HI.out.mono ?_
    rintro e w1 ⟨r, rfl, hr, hb1⟩
    go_wp2_with fail
    go_ret
    exact ⟨by rw [hr]; rfl, bt hb1 hb hb.size⟩
theorem Clone_any (zs : List Int) (v : Value) (B : Nat) (w : World) (hv : IntsAt w B v zs) (hz : zs.length ≤ 1000000) :
    Calls Tryz.prog 70 #[v] w fun e w' => ∃ v', e = .returned v' ∧ w'.ownsRow w.heap.size 3 1 v' zs.length (zs.map (Value.int .i64)) ∧ Below w.heap.size w w' := by
  obtain ⟨A, c, rfl, _, _, hc⟩ := hv.form
  by_cases hn : zs = []
  · subst hn
    cases A with
    | none =>
      refine (Tryz.slices_Clone_int_nil 0 c w).mono ?_
      rintro e w' ⟨rfl, rfl⟩
      exact ⟨_, rfl, World.ownsRow_nil _ _ _ _, Below.refl _ _⟩
    | some a =>
      refine (Tryz.slices_Clone_int_zero a c w).mono ?_
      rintro e w' ⟨v', rfl, ho, _, hb⟩
      exact ⟨_, rfl, ho, hb⟩
  · obtain ⟨g, o, rfl, _, k1⟩ := hc hn
    refine (Tryz.slices_Clone_int g o zs.length c zs w (Nat.le_refl _) (by omega) k1).mono ?_
    rintro e w' ⟨v', rfl, ho, _, hb⟩
    rw [List.take_length] at ho
    exact ⟨_, rfl, ho, hb⟩
theorem Blk.four {w : World} {g : Nat} {t : TypeId} {a b c d : Value} (h : Blk w g t #[a, b, c, d]) : w.cell? ⟨g, 0, none⟩ = some a ∧ w.cell? ⟨g, 1, none⟩ = some b ∧ w.cell? ⟨g, 2, none⟩ = some c ∧ w.cell? ⟨g, 3, none⟩ = some d := ⟨h.cell 0, h.cell 1, h.cell 2, h.cell 3⟩
structure OSt (w wx : World) (R O : Nat) (W Bt : Int) (gv : Value) (gw : List (Gt × Value)) : Prop where
  res : Blk wx R 25 #[.int .i64 0, .int .i64 0, .slice none 0 0]
  out : Blk wx O 25 #[.int .i64 W, .int .i64 Bt, gv]
  gs : GsAt wx w.heap.size gv gw
  kept : Below w.heap.size w wx
  hR : w.heap.size ≤ R
  hO : w.heap.size ≤ O
  hne : R ≠ O
theorem OSt.below {w wx w' : World} {R O : Nat} {W Bt : Int} {gv : Value} {gw : List (Gt × Value)} (h : OSt w wx R O W Bt gv gw) (hb : Below wx.heap.size wx w') : OSt w w' R O W Bt gv gw :=
  ⟨h.res.below hb h.res.lt, h.out.below hb h.out.lt, h.gs.below hb, h.kept.trans (hb.mono h.kept.size), h.hR, h.hO, h.hne⟩
theorem OSt.app {w wx w7 : World} {R O : Nat} {W Bt : Int} {gv v' : Value} {gw : List (Gt × Value)} {row : Option Nat} {p : Gt × Value}
    (h : OSt w wx R O W Bt gv gw) (hp : wx.ownsRow w.heap.size 3 1 p.2 p.1.wires.length (p.1.wires.map (Value.int .i64)))
    (hown : w7.ownsRow w.heap.size 61 4 v' (gw.length + 1) (gatesC gw ++ gateC p)) (hg : wx.grownBy w7 row) (hrr : ∀ g, row = some g → w.heap.size ≤ g ∧ ∃ cur, Blk wx g 61 cur) :
    OSt w (w7.setCell ⟨O, 2, none⟩ v') R O W Bt v' (gw ++ [p]) := by
  obtain ⟨h2, h3, h5, h6, h8, h9, h10⟩ := h
  have ne_ : ∀ {g : Nat} {t : TypeId} {cs : Array Value}, Blk wx g t cs → t ≠ 61 → row ≠ some g := fun hb ht e => by
    obtain ⟨_, cur, hc⟩ := hrr _ e
    exact hc.ne_ hb (Ne.symm ht) rfl
  have own_ : ∀ {base : Nat} {t : TypeId} {size n : Nat} {v : Value} {xs : List Value}, wx.ownsRow base t size v n xs → t ≠ 61 → w7.ownsRow base t size v n xs := fun ho ht => ho.kept hg (by
    cases hrw : row with
    | none => exact Classical.em _
    | some g => obtain ⟨_, cur, hb⟩ := hrr g hrw; exact .inr (own_blk_ne ho hb ht))
  have hs : w7.grownBy (w7.setCell ⟨O, 2, none⟩ v') (some O) := grown_set ⟨rfl, rfl, rfl, Nat.le_refl _, fun _ _ _ => rfl⟩ 2 v'
  have k2 := h2.grown hg (fun e => ne_ h2 (by decide) e.symm)
  have k3 := h3.grown hg (fun e => ne_ h3 (by decide) e.symm)
  refine ⟨k2.far h10 _, k3.set_ 2 v', ⟨?_, ?_⟩, ?_, h8, h9, h10⟩
  · rw [gatesC_snoc, List.length_append]
    exact hown.kept hs (.inr (own_blk_ne hown k3 (by decide)))
  · intro q hq
    have hq2 : wx.ownsRow w.heap.size 3 1 q.2 q.1.wires.length (q.1.wires.map (Value.int .i64)) := by
      rcases List.mem_append.1 hq with hq | hq
      · exact h5.each q hq
      · rw [List.mem_singleton.1 hq]; exact hp
    have hq3 := own_ hq2 (by decide)
    exact hq3.kept hs (.inr (own_blk_ne hq3 k3 (by decide)))
  · have b7 : Below w.heap.size w w7 := ⟨hg.os.trans h6.os, hg.tape.trans h6.tape, hg.output.trans h6.output, Nat.le_trans h6.size hg.size, fun j hj => (hg.block j (Nat.lt_of_lt_of_le hj h6.size) (fun e => by have := (hrr j e.symm).1; omega)).trans (h6.block j hj)⟩
    exact b7.setCell h9 _
set_option maxRecDepth 100000 in
set_option maxHeartbeats 8000000 in
theorem Own_calls (W Bt : Int) (gs : List Gt) (v : Value) (B : Nat) (w : World) (hB : B ≤ w.heap.size) (hv : GatesAt w B v gs) (hz : ∀ g ∈ gs, g.wires.length ≤ 1000000) (hl : gs.length ≤ 1000000) :
    Calls Tryz.prog 32 #[.agg #[.int .i64 W, .int .i64 Bt, v]] w fun e w' => ∃ gv gw, e = .returned (.agg #[.int .i64 W, .int .i64 Bt, gv]) ∧ gw.map (·.1) = gs ∧ GsAt w' w.heap.size gv gw ∧ Below w.heap.size w w' := by
  have H1 := Lib.hid hv
  have HB := Lib.hid hB
  obtain ⟨A, c, rfl, _, hc1, _⟩ := hv.form
  unfold maxLen at hc1
  have h0 : OSt w (((w.alloc (.cells #[.int .i64 W, .int .i64 Bt, .slice A gs.length c] 25)).alloc (.cells #[.int .i64 0, .int .i64 0, .slice none 0 0] 25)).alloc (.cells #[.int .i64 W, .int .i64 Bt, .slice none 0 0] 25)) (w.heap.size + 1) (w.heap.size + 1 + 1) W Bt (.slice none 0 0) [] :=
    ⟨(Blk.at_ _ _ _ (by simp)).alloc _, Blk.at_ _ _ _ (by simp), ⟨World.ownsRow_nil _ _ _ _, fun p hp => by cases hp⟩, bt (below1 _ _) (below2 w _ _) (by simp; omega), by omega, by omega, by omega⟩
  have hx := ((Blk.new w 25 #[.int .i64 W, .int .i64 Bt, .slice A gs.length c]).alloc (.cells #[.int .i64 0, .int .i64 0, .slice none 0 0] 25)).alloc (.cells #[.int .i64 W, .int .i64 Bt, .slice none 0 0] 25)
  clear hv hB
  go_enter Tryz.func32, Tryz.ntmps32
  go_upto_region 2 with fail
  generalize ((w.alloc (.cells #[.int .i64 W, .int .i64 Bt, .slice A gs.length c] 25)).alloc (.cells #[.int .i64 0, .int .i64 0, .slice none 0 0] 25)).alloc (.cells #[.int .i64 W, .int .i64 Bt, .slice none 0 0] 25) = wa at *
  generalize w.heap.size + 1 + 1 = O at *
  generalize w.heap.size + 1 = R at *
  have x2 := hx.cell 2
  have xf := hx.frozen
  simp at x2
  go_wp2_with fail
  clear x2 xf hx
  go_loopg [14, 5] gs.length (fun gk s14 _ wr => ∃ (n : Nat) (gv : Value) (gw : List (Gt × Value)), n + gk = gs.length ∧ s14 = .int .i64 n ∧ OSt w wr R O W Bt gv gw ∧ gw.map (·.1) = gs.take n)
  case atStart => exact ⟨0, _, [], by omega, rfl, h0, rfl⟩
  case round =>
    clear h0
    obtain ⟨n, gv, gw, hn, rfl, h, hgw⟩ := hrel
    have Hgw := Lib.hid hgw
    clear hgw
    obtain ⟨A2, cc, rfl⟩ := own_form h.gs.row
    cases gk with
    | zero =>
      obtain rfl : n = gs.length := by omega
      have y0 := h.out.cell 0
      have y1 := h.out.cell 1
      have y2 := h.out.cell 2
      have yf := h.out.frozen
      have z0 := h.res.cell 0
      have z1 := h.res.cell 1
      have z2 := h.res.cell 2
      have zf := h.res.frozen
      simp at y0 y1 y2 z0 z1 z2
      have hgs := h.gs
      have hres := h.res
      have hk := h.kept
      go_wp2_with fail
      refine bodyPost_ret (v := .agg #[.int .i64 W, .int .i64 Bt, .slice A2 gw.length cc]) (by simp [results, Tryz.results32, go_sem, z0, z1, z2]) rfl ?_
      refine ⟨_, gw, rfl, by rw [Hgw.out, List.take_length], ?_, ?_⟩
      · exact GsAt.far hgs hres (by decide) (by decide) (grown_put3 _ _ _ _ _)
      · exact below_put3 hk h.hR _ _ _
    | succ gk =>
      have hlt : n < gs.length := by omega
      have k1 := H1.out.below (h.kept.mono HB.out)
      obtain ⟨A', c', e1, _, _, h3⟩ := k1.form
      injection e1 with e1 _ e3
      subst e1 e3
      obtain ⟨b, o, rfl, hbB, hcell⟩ := h3 (by intro h0; subst h0; simp at hlt)
      obtain ⟨g, Hg, hgm⟩ : ∃ g, Hid (gs.take (n + 1) = gs.take n ++ [g]) ∧ gs[n]? = some g := ⟨gs[n], List.take_succ_eq_append_getElem hlt, List.getElem?_eq_getElem hlt⟩
      obtain ⟨wv, hwv, x0, x1, x2, x3⟩ := hcell n g hgm
      obtain ⟨D, d, rfl, _⟩ := hwv.form
      have hgl := hz g (List.mem_of_getElem? hgm)
      have hlk : (n : Int) < (gs.length : Int) := by omega
      have hl0 : (0 : Int) ≤ (n : Int) := by omega
      have hks := h.kept.size
      have HBs := HB.out
      have hgn : gw.length = n := by have := congrArg List.length Hgw.out; rw [List.length_map, List.length_take] at this; omega
      have hml : gw.length + 1 ≤ maxLen := by unfold maxLen; omega
      have hml9 : gw.length ≤ 1000000 := by omega
      obtain ⟨j0, hinf, hz0, hz1, hz2⟩ := info_parts infoGate
      have hba := below1 wr (.cells #[.int .i64 g.kind, .slice D g.wires.length d, .int .i64 g.bit, .int .i64 g.ifn] 61)
      have h4 := h.below hba
      have b4 := Blk.new wr 61 #[.int .i64 g.kind, .slice D g.wires.length d, .int .i64 g.bit, .int .i64 g.ifn]
      have hwv4 := hwv.below (hba.mono (by omega))
      have Hgn := Lib.hid hgn
      have HRR := Lib.hid (fun g2 (e : (Value.slice A2 gw.length cc).ownBlock = some g2) => (h.gs.row.lt g2 e).2)
      have hRO : wr.heap.size ≠ O := by have := h.out.lt; omega
      clear hcell h3 k1 hgm h hwv hgn
      go_upto_region 5 with fail
      clear x0 x1 x2 x3 hba
      generalize wr.alloc (.cells #[.int .i64 g.kind, .slice D g.wires.length d, .int .i64 g.bit, .int .i64 g.ifn] 61) = w4 at *
      generalize wr.heap.size = RR at *
      have h5 := h4.below ((Below.refl _ _).drew)
      have b5 := b4.drew
      have hwv5 : IntsAt w4.drew B (.slice D g.wires.length d) g.wires := hwv4.keep fun _ _ => rfl
      have HC := Lib.hid (Clone_any g.wires _ B w4.drew hwv5 hgl)
      clear h4 b4 hwv4 hwv5
      have y2 := h5.out.cell 2
      have yf := h5.out.frozen
      simp at y2
      have hks5 := h5.kept.size
      refine wp_region_held_drew (S := (fun W => W.cell? ⟨RR, 0, none⟩ = some (.int .i64 g.kind) ∧ W.cell? ⟨RR, 1, none⟩ = some (.slice D g.wires.length d) ∧ W.cell? ⟨RR, 2, none⟩ = some (.int .i64 g.bit) ∧ W.cell? ⟨RR, 3, none⟩ = some (.int .i64 g.ifn))) (by kernel_rfl) (Blk.four b5) (fun _ => ?_)
      refine wpAnyH_take (i := 0) (oi := { dst := some 18, op := Op.fieldAddr 25 (Operand.tmp 3) 2, type := 0, pos := "kit.go:127", after := #[], guard := none }) (v := .pointer (some ⟨O, 2, none⟩)) rfl (by kernel_rfl) (by kernel_rfl) (by kernel_rfl) (fun _ _ _ h => h) (Or.inl ⟨by rfl, fun w hSw => ?_⟩) (Blk.four b5) ?_
      · (try dsimp only at hSw)
        go_split_ands
        go_simp
      try simp only [Act.put, List.setIfInBounds_toArray, List.set_cons_zero, List.set_cons_succ]
      refine wpAnyH_take (i := 2) (oi := { dst := some 20, op := Op.fieldAddr 61 (Operand.tmp 5) 0, type := 0, pos := "kit.go:127", after := #[], guard := none }) (v := .pointer (some ⟨RR, 0, none⟩)) rfl (by kernel_rfl) (by kernel_rfl) (by kernel_rfl) (fun _ _ _ h => h) (Or.inl ⟨by rfl, fun w hSw => ?_⟩) (Blk.four b5) ?_
      · (try dsimp only at hSw)
        go_split_ands
        go_simp
      try simp only [Act.put, List.setIfInBounds_toArray, List.set_cons_zero, List.set_cons_succ]
      refine wpAnyH_take (i := 3) (oi := { dst := some 21, op := Op.load 3 (Operand.tmp 20), type := 3, pos := "kit.go:127", after := #[{ on := 2, ground := Ground.data }], guard := none }) (v := .int .i64 g.kind) rfl (by kernel_rfl) (by kernel_rfl) (by kernel_rfl) (fun _ _ _ h => h) (Or.inl ⟨by rfl, fun w hSw => ?_⟩) (Blk.four b5) ?_
      · (try dsimp only at hSw)
        go_split_ands
        go_simp
      try simp only [Act.put, List.setIfInBounds_toArray, List.set_cons_zero, List.set_cons_succ]
      refine wpAnyH_take (i := 4) (oi := { dst := some 22, op := Op.fieldAddr 61 (Operand.tmp 5) 1, type := 0, pos := "kit.go:127", after := #[], guard := none }) (v := .pointer (some ⟨RR, 1, none⟩)) rfl (by kernel_rfl) (by kernel_rfl) (by kernel_rfl) (fun _ _ _ h => h) (Or.inl ⟨by rfl, fun w hSw => ?_⟩) (Blk.four b5) ?_
      · (try dsimp only at hSw)
        go_split_ands
        go_simp
      try simp only [Act.put, List.setIfInBounds_toArray, List.set_cons_zero, List.set_cons_succ]
      refine wpAnyH_take (i := 5) (oi := { dst := some 23, op := Op.load 30 (Operand.tmp 22), type := 30, pos := "kit.go:127", after := #[{ on := 4, ground := Ground.data }], guard := none }) (v := .slice D g.wires.length d) rfl (by kernel_rfl) (by kernel_rfl) (by kernel_rfl) (fun _ _ _ h => h) (Or.inl ⟨by rfl, fun w hSw => ?_⟩) (Blk.four b5) ?_
      · (try dsimp only at hSw)
        go_split_ands
        go_simp
      try simp only [Act.put, List.setIfInBounds_toArray, List.set_cons_zero, List.set_cons_succ]
      refine wpAnyH_take (i := 7) (oi := { dst := some 25, op := Op.fieldAddr 61 (Operand.tmp 5) 2, type := 0, pos := "kit.go:127", after := #[], guard := none }) (v := .pointer (some ⟨RR, 2, none⟩)) rfl (by kernel_rfl) (by kernel_rfl) (by kernel_rfl) (fun _ _ _ h => h) (Or.inl ⟨by rfl, fun w hSw => ?_⟩) (Blk.four b5) ?_
      · (try dsimp only at hSw)
        go_split_ands
        go_simp
      try simp only [Act.put, List.setIfInBounds_toArray, List.set_cons_zero, List.set_cons_succ]
      refine wpAnyH_take (i := 8) (oi := { dst := some 26, op := Op.load 3 (Operand.tmp 25), type := 3, pos := "kit.go:127", after := #[{ on := 7, ground := Ground.data }], guard := none }) (v := .int .i64 g.bit) rfl (by kernel_rfl) (by kernel_rfl) (by kernel_rfl) (fun _ _ _ h => h) (Or.inl ⟨by rfl, fun w hSw => ?_⟩) (Blk.four b5) ?_
      · (try dsimp only at hSw)
        go_split_ands
        go_simp
      try simp only [Act.put, List.setIfInBounds_toArray, List.set_cons_zero, List.set_cons_succ]
      refine wpAnyH_take (i := 9) (oi := { dst := some 27, op := Op.fieldAddr 61 (Operand.tmp 5) 3, type := 0, pos := "kit.go:127", after := #[], guard := none }) (v := .pointer (some ⟨RR, 3, none⟩)) rfl (by kernel_rfl) (by kernel_rfl) (by kernel_rfl) (fun _ _ _ h => h) (Or.inl ⟨by rfl, fun w hSw => ?_⟩) (Blk.four b5) ?_
      · (try dsimp only at hSw)
        go_split_ands
        go_simp
      try simp only [Act.put, List.setIfInBounds_toArray, List.set_cons_zero, List.set_cons_succ]
      refine wpAnyH_take (i := 10) (oi := { dst := some 28, op := Op.load 3 (Operand.tmp 27), type := 3, pos := "kit.go:127", after := #[{ on := 9, ground := Ground.data }], guard := none }) (v := .int .i64 g.ifn) rfl (by kernel_rfl) (by kernel_rfl) (by kernel_rfl) (fun _ _ _ h => h) (Or.inl ⟨by rfl, fun w hSw => ?_⟩) (Blk.four b5) ?_
      · (try dsimp only at hSw)
        go_split_ands
        go_simp
      try simp only [Act.put, List.setIfInBounds_toArray, List.set_cons_zero, List.set_cons_succ]
      refine wpAnyH_ready (rs := [1, 6]) (by kernel_rfl) (by simp) ?_
      refine AllReadyH.cons (o := { dst := some 19, op := Op.load 23 (Operand.tmp 18), type := 23, pos := "kit.go:127", after := #[{ on := 0, ground := Ground.data }], guard := none }) rfl (fun K hK => ?ld) (AllReadyH.cons (o := { dst := some 24, op := Op.call { callee := Callee.value (Operand.func 70), args := #[Operand.tmp 23], argTypes := #[30] }, type := 30, pos := "kit.go:127", after := #[{ on := 5, ground := Ground.data }], guard := none }) rfl (fun K hK => ?cl) AllReadyH.nil)
      case ld =>
        go_simp
        refine hK.out _ _ (Blk.four b5) (fun _ => ?_)
        clear hK
        try simp only [Act.put, List.setIfInBounds_toArray, List.set_cons_zero, List.set_cons_succ]
        refine wpAnyH_ready (rs := [6]) (by kernel_rfl) (by simp) ?_
        refine AllReadyH.cons (o := { dst := some 24, op := Op.call { callee := Callee.value (Operand.func 70), args := #[Operand.tmp 23], argTypes := #[30] }, type := 30, pos := "kit.go:127", after := #[{ on := 5, ground := Ground.data }], guard := none }) rfl (fun K hK => ?_) (AllReadyH.nil)
        go_simp
        go_at_call 70; (with_reducible refine HC.out.mono ?_); rintro e w6 ⟨v6, rfl, hw6, hb6⟩; obtain ⟨A6, c6, rfl⟩ := own_form hw6; have h6 := h5.below hb6; have b6 := b5.below hb6 b5.lt; clear y2 yf; have hbl : O < w6.heap.size := h6.out.lt; have y2 : (w6.alloc (.cells #[.int .i64 g.kind, .slice A6 g.wires.length c6, .int .i64 g.bit, .int .i64 g.ifn] 61)).cell? ⟨O, 2, none⟩ = some (.slice A2 gw.length cc) := (World.cell?_alloc_lt _ _ _ hbl).trans (h6.out.cell 2); have y2b : w6.cell? ⟨O, 2, none⟩ = some (.slice A2 gw.length cc) := h6.out.cell 2; have yf := h6.out.frozen; have b6a := b6.alloc (.cells #[.int .i64 g.kind, .slice A6 g.wires.length c6, .int .i64 g.bit, .int .i64 g.ifn] 61)
        go_wp2_with fail
        refine hK.out _ _ (Blk.four b6) (fun _ => ?_)
        clear hK
        try simp only [Act.put, List.setIfInBounds_toArray, List.set_cons_zero, List.set_cons_succ]
        refine wpAnyH_take (i := 11) (oi := { dst := some 29, op := Op.build 61 #[(0, Operand.tmp 21), (1, Operand.tmp 24), (2, Operand.tmp 26), (3, Operand.tmp 28)], type := 61, pos := "kit.go:127", after := #[{ on := 3, ground := Ground.data }, { on := 6, ground := Ground.data }, { on := 8, ground := Ground.data }, { on := 10, ground := Ground.data }], guard := none }) (v := .agg #[.int .i64 g.kind, .slice A6 g.wires.length c6, .int .i64 g.bit, .int .i64 g.ifn]) rfl (by kernel_rfl) (by kernel_rfl) (by kernel_rfl) (fun _ _ _ h => h) (Or.inl ⟨by rfl, fun w hSw => ?_⟩) (Blk.four b6) ?_
        · (try dsimp only at hSw)
          go_split_ands
          go_simp
        try simp only [Act.put, List.setIfInBounds_toArray, List.set_cons_zero, List.set_cons_succ]
        refine wpAnyH_ready (rs := [12]) (by kernel_rfl) (by simp) ?_
        refine AllReadyH.cons (o := { dst := some 30, op := Op.buildSlice 23 1 #[(0, Operand.tmp 29)], type := 23, pos := "kit.go:127", after := #[{ on := 11, ground := Ground.data }], guard := none }) rfl (fun K hK => ?_) (AllReadyH.nil)
        go_simp
        refine hK.out _ _ (Blk.four b6a) (fun _ => ?_)
        clear hK
        try simp only [Act.put, List.setIfInBounds_toArray, List.set_cons_zero, List.set_cons_succ]
        refine wpAnyH_ready (rs := [13]) (by kernel_rfl) (by simp) ?_
        refine AllReadyH.cons (o := { dst := some 31, op := Op.call { callee := Callee.builtin Builtin.append, args := #[Operand.tmp 19, Operand.tmp 30], argTypes := #[23, 23] }, type := 23, pos := "kit.go:127", after := #[{ on := 1, ground := Ground.data }, { on := 12, ground := Ground.data }, { on := 6, ground := Ground.chain }], guard := none }) rfl (fun K hK => ?_) (AllReadyH.nil)
        refine step_append_one rfl _ _ 23 rfl w.heap.size 61 j0 _ 4 48 Tryz.underlying23 hinf hz0 hz1 hz2 rfl (by decide) (.slice A2 gw.length cc) gw.length (gatesC gw) rfl ((h6.gs.below (below1 w6 (.cells #[.int .i64 g.kind, .slice A6 g.wires.length c6, .int .i64 g.bit, .int .i64 g.ifn] 61))).row) ⟨w6.heap.size, 0, none⟩ 1 1 [.int .i64 g.kind, .slice A6 g.wires.length c6, .int .i64 g.bit, .int .i64 g.ifn] rfl rfl (row_new _ _ _) (by simp [Value.oneCell']) hml (by omega) (by have := h6.kept.size; simp; omega) ?_; intro v' w7 row hown' hgrow hrr; obtain ⟨g', cap', rfl⟩ := ownsRow_succ hown'; have hrr2 : ∀ gb, row = some gb → w.heap.size ≤ gb ∧ ∃ cur, Blk (w6.alloc (.cells #[.int .i64 g.kind, .slice A6 g.wires.length c6, .int .i64 g.bit, .int .i64 g.ifn] 61)) gb 61 cur := (fun gb e => by rcases hrr with h | ⟨g2, cap2, cur2, h2, hv2, _, hb2, _⟩; (rw [h] at e; cases e); (rw [h2] at e; injection e with e; subst e; exact ⟨((h6.gs.row).lt g2 (by rw [hv2]; rfl)).1, cur2, hb2⟩)); have h7 := h6.below (below1 w6 (.cells #[.int .i64 g.kind, .slice A6 g.wires.length c6, .int .i64 g.bit, .int .i64 g.ifn] 61)); have h8 := h7.app (p := (g, .slice A6 g.wires.length c6)) (own_below (own_base hw6 hks5) (below1 w6 (.cells #[.int .i64 g.kind, .slice A6 g.wires.length c6, .int .i64 g.bit, .int .i64 g.ifn] 61)) (Nat.le_refl _)) hown' hgrow hrr2; have h7c := h7.out.grown hgrow (fun e => by obtain ⟨_, cur, hb⟩ := hrr2 _ e.symm; exact hb.ne_ h7.out (by decide) rfl); have b7 := b6a.grown hgrow (fun e => by rcases hrr with h | ⟨g2, cap2, cur2, h2, hv2, _, hb2, _⟩; (rw [h] at e; cases e); (rw [h2] at e; injection e with e; have h9 := HRR.out g2 (by rw [hv2]; rfl); omega)); clear y2 y2b yf; have y2 := h7c.cell 2; have yf := h7c.frozen; simp at y2
        refine hK.out _ _ (Blk.four b7) (fun _ => ?_)
        clear hK
        try simp only [Act.put, List.setIfInBounds_toArray, List.set_cons_zero, List.set_cons_succ]
        refine wpAnyH_take (i := 14) (oi := { dst := some 32, op := Op.fieldAddr 25 (Operand.tmp 3) 2, type := 0, pos := "kit.go:127", after := #[{ on := 0, ground := Ground.phase }, { on := 1, ground := Ground.phase }, { on := 2, ground := Ground.phase }, { on := 3, ground := Ground.phase }, { on := 4, ground := Ground.phase }, { on := 5, ground := Ground.phase }, { on := 6, ground := Ground.phase }, { on := 7, ground := Ground.phase }, { on := 8, ground := Ground.phase }, { on := 9, ground := Ground.phase }, { on := 10, ground := Ground.phase }, { on := 11, ground := Ground.phase }, { on := 12, ground := Ground.phase }, { on := 13, ground := Ground.phase }], guard := none }) (v := .pointer (some ⟨O, 2, none⟩)) rfl (by kernel_rfl) (by kernel_rfl) (by kernel_rfl) (fun _ _ _ h => h) (Or.inl ⟨by rfl, fun w hSw => ?_⟩) (Blk.four b7) ?_
        · (try dsimp only at hSw)
          go_split_ands
          go_simp
        try simp only [Act.put, List.setIfInBounds_toArray, List.set_cons_zero, List.set_cons_succ]
        refine wpAnyH_ready (rs := [15]) (by kernel_rfl) (by simp) ?_
        refine AllReadyH.cons (o := { dst := none, op := Op.store 23 (Operand.tmp 32) (Operand.tmp 31), type := 0, pos := "kit.go:127", after := #[{ on := 14, ground := Ground.data }, { on := 13, ground := Ground.data }, { on := 13, ground := Ground.chain }, { on := 0, ground := Ground.phase }, { on := 1, ground := Ground.phase }, { on := 2, ground := Ground.phase }, { on := 3, ground := Ground.phase }, { on := 4, ground := Ground.phase }, { on := 5, ground := Ground.phase }, { on := 6, ground := Ground.phase }, { on := 7, ground := Ground.phase }, { on := 8, ground := Ground.phase }, { on := 9, ground := Ground.phase }, { on := 10, ground := Ground.phase }, { on := 11, ground := Ground.phase }, { on := 12, ground := Ground.phase }, { on := 13, ground := Ground.phase }], guard := none }) rfl (fun K hK => ?_) (AllReadyH.nil)
        go_simp
        refine hK.out _ _ (Blk.four (Blk.far' (p := ⟨O, 2, none⟩) hRO _ b7)) (fun _ => ?_)
        clear hK
        try simp only [Act.put, List.setIfInBounds_toArray, List.set_cons_zero, List.set_cons_succ]
        refine wpAnyH_done (by kernel_rfl) ?_ _
        have H8 := Lib.hid h8
        have Hnx : Hid ((gw ++ [(g, Value.slice A6 g.wires.length c6)]).map (·.1) = gs.take (n + 1)) := by show _ = _; rw [List.map_append, Hgw.out, Hg.out]; rfl
        clear HC h5 b5 b6 h6 h7 h8 h7c hw6 hb6 hown' hgrow hrr hrr2 y2 yf
        go_wp2_with fail
        go_roundg gk
        case measure => omega
        case rel => exact ⟨n + 1, _, gw ++ [(g, .slice A6 g.wires.length c6)], by omega, by go_num, H8.out, Hnx.out⟩
      case cl =>
        go_simp
        go_at_call 70; (with_reducible refine HC.out.mono ?_); rintro e w6 ⟨v6, rfl, hw6, hb6⟩; obtain ⟨A6, c6, rfl⟩ := own_form hw6; have h6 := h5.below hb6; have b6 := b5.below hb6 b5.lt; clear y2 yf; have hbl : O < w6.heap.size := h6.out.lt; have y2 : (w6.alloc (.cells #[.int .i64 g.kind, .slice A6 g.wires.length c6, .int .i64 g.bit, .int .i64 g.ifn] 61)).cell? ⟨O, 2, none⟩ = some (.slice A2 gw.length cc) := (World.cell?_alloc_lt _ _ _ hbl).trans (h6.out.cell 2); have y2b : w6.cell? ⟨O, 2, none⟩ = some (.slice A2 gw.length cc) := h6.out.cell 2; have yf := h6.out.frozen; have b6a := b6.alloc (.cells #[.int .i64 g.kind, .slice A6 g.wires.length c6, .int .i64 g.bit, .int .i64 g.ifn] 61)
        go_wp2_with fail
        refine hK.out _ _ (Blk.four b6) (fun _ => ?_)
        clear hK
        try simp only [Act.put, List.setIfInBounds_toArray, List.set_cons_zero, List.set_cons_succ]
        refine wpAnyH_take (i := 11) (oi := { dst := some 29, op := Op.build 61 #[(0, Operand.tmp 21), (1, Operand.tmp 24), (2, Operand.tmp 26), (3, Operand.tmp 28)], type := 61, pos := "kit.go:127", after := #[{ on := 3, ground := Ground.data }, { on := 6, ground := Ground.data }, { on := 8, ground := Ground.data }, { on := 10, ground := Ground.data }], guard := none }) (v := .agg #[.int .i64 g.kind, .slice A6 g.wires.length c6, .int .i64 g.bit, .int .i64 g.ifn]) rfl (by kernel_rfl) (by kernel_rfl) (by kernel_rfl) (fun _ _ _ h => h) (Or.inl ⟨by rfl, fun w hSw => ?_⟩) (Blk.four b6) ?_
        · (try dsimp only at hSw)
          go_split_ands
          go_simp
        try simp only [Act.put, List.setIfInBounds_toArray, List.set_cons_zero, List.set_cons_succ]
        refine wpAnyH_ready (rs := [1, 12]) (by kernel_rfl) (by simp) ?_
        refine AllReadyH.cons (o := { dst := some 19, op := Op.load 23 (Operand.tmp 18), type := 23, pos := "kit.go:127", after := #[{ on := 0, ground := Ground.data }], guard := none }) rfl (fun K hK => ?ld) (AllReadyH.cons (o := { dst := some 30, op := Op.buildSlice 23 1 #[(0, Operand.tmp 29)], type := 23, pos := "kit.go:127", after := #[{ on := 11, ground := Ground.data }], guard := none }) rfl (fun K hK => ?bs) AllReadyH.nil)
        case ld =>
          go_simp
          refine hK.out _ _ (Blk.four b6) (fun _ => ?_)
          clear hK
          try simp only [Act.put, List.setIfInBounds_toArray, List.set_cons_zero, List.set_cons_succ]
          refine wpAnyH_ready (rs := [12]) (by kernel_rfl) (by simp) ?_
          refine AllReadyH.cons (o := { dst := some 30, op := Op.buildSlice 23 1 #[(0, Operand.tmp 29)], type := 23, pos := "kit.go:127", after := #[{ on := 11, ground := Ground.data }], guard := none }) rfl (fun K hK => ?_) (AllReadyH.nil)
          go_simp
          refine hK.out _ _ (Blk.four b6a) (fun _ => ?_)
          clear hK
          try simp only [Act.put, List.setIfInBounds_toArray, List.set_cons_zero, List.set_cons_succ]
          refine wpAnyH_ready (rs := [13]) (by kernel_rfl) (by simp) ?_
          refine AllReadyH.cons (o := { dst := some 31, op := Op.call { callee := Callee.builtin Builtin.append, args := #[Operand.tmp 19, Operand.tmp 30], argTypes := #[23, 23] }, type := 23, pos := "kit.go:127", after := #[{ on := 1, ground := Ground.data }, { on := 12, ground := Ground.data }, { on := 6, ground := Ground.chain }], guard := none }) rfl (fun K hK => ?_) (AllReadyH.nil)
          refine step_append_one rfl _ _ 23 rfl w.heap.size 61 j0 _ 4 48 Tryz.underlying23 hinf hz0 hz1 hz2 rfl (by decide) (.slice A2 gw.length cc) gw.length (gatesC gw) rfl ((h6.gs.below (below1 w6 (.cells #[.int .i64 g.kind, .slice A6 g.wires.length c6, .int .i64 g.bit, .int .i64 g.ifn] 61))).row) ⟨w6.heap.size, 0, none⟩ 1 1 [.int .i64 g.kind, .slice A6 g.wires.length c6, .int .i64 g.bit, .int .i64 g.ifn] rfl rfl (row_new _ _ _) (by simp [Value.oneCell']) hml (by omega) (by have := h6.kept.size; simp; omega) ?_; intro v' w7 row hown' hgrow hrr; obtain ⟨g', cap', rfl⟩ := ownsRow_succ hown'; have hrr2 : ∀ gb, row = some gb → w.heap.size ≤ gb ∧ ∃ cur, Blk (w6.alloc (.cells #[.int .i64 g.kind, .slice A6 g.wires.length c6, .int .i64 g.bit, .int .i64 g.ifn] 61)) gb 61 cur := (fun gb e => by rcases hrr with h | ⟨g2, cap2, cur2, h2, hv2, _, hb2, _⟩; (rw [h] at e; cases e); (rw [h2] at e; injection e with e; subst e; exact ⟨((h6.gs.row).lt g2 (by rw [hv2]; rfl)).1, cur2, hb2⟩)); have h7 := h6.below (below1 w6 (.cells #[.int .i64 g.kind, .slice A6 g.wires.length c6, .int .i64 g.bit, .int .i64 g.ifn] 61)); have h8 := h7.app (p := (g, .slice A6 g.wires.length c6)) (own_below (own_base hw6 hks5) (below1 w6 (.cells #[.int .i64 g.kind, .slice A6 g.wires.length c6, .int .i64 g.bit, .int .i64 g.ifn] 61)) (Nat.le_refl _)) hown' hgrow hrr2; have h7c := h7.out.grown hgrow (fun e => by obtain ⟨_, cur, hb⟩ := hrr2 _ e.symm; exact hb.ne_ h7.out (by decide) rfl); have b7 := b6a.grown hgrow (fun e => by rcases hrr with h | ⟨g2, cap2, cur2, h2, hv2, _, hb2, _⟩; (rw [h] at e; cases e); (rw [h2] at e; injection e with e; have h9 := HRR.out g2 (by rw [hv2]; rfl); omega)); clear y2 y2b yf; have y2 := h7c.cell 2; have yf := h7c.frozen; simp at y2
          refine hK.out _ _ (Blk.four b7) (fun _ => ?_)
          clear hK
          try simp only [Act.put, List.setIfInBounds_toArray, List.set_cons_zero, List.set_cons_succ]
          refine wpAnyH_take (i := 14) (oi := { dst := some 32, op := Op.fieldAddr 25 (Operand.tmp 3) 2, type := 0, pos := "kit.go:127", after := #[{ on := 0, ground := Ground.phase }, { on := 1, ground := Ground.phase }, { on := 2, ground := Ground.phase }, { on := 3, ground := Ground.phase }, { on := 4, ground := Ground.phase }, { on := 5, ground := Ground.phase }, { on := 6, ground := Ground.phase }, { on := 7, ground := Ground.phase }, { on := 8, ground := Ground.phase }, { on := 9, ground := Ground.phase }, { on := 10, ground := Ground.phase }, { on := 11, ground := Ground.phase }, { on := 12, ground := Ground.phase }, { on := 13, ground := Ground.phase }], guard := none }) (v := .pointer (some ⟨O, 2, none⟩)) rfl (by kernel_rfl) (by kernel_rfl) (by kernel_rfl) (fun _ _ _ h => h) (Or.inl ⟨by rfl, fun w hSw => ?_⟩) (Blk.four b7) ?_
          · (try dsimp only at hSw)
            go_split_ands
            go_simp
          try simp only [Act.put, List.setIfInBounds_toArray, List.set_cons_zero, List.set_cons_succ]
          refine wpAnyH_ready (rs := [15]) (by kernel_rfl) (by simp) ?_
          refine AllReadyH.cons (o := { dst := none, op := Op.store 23 (Operand.tmp 32) (Operand.tmp 31), type := 0, pos := "kit.go:127", after := #[{ on := 14, ground := Ground.data }, { on := 13, ground := Ground.data }, { on := 13, ground := Ground.chain }, { on := 0, ground := Ground.phase }, { on := 1, ground := Ground.phase }, { on := 2, ground := Ground.phase }, { on := 3, ground := Ground.phase }, { on := 4, ground := Ground.phase }, { on := 5, ground := Ground.phase }, { on := 6, ground := Ground.phase }, { on := 7, ground := Ground.phase }, { on := 8, ground := Ground.phase }, { on := 9, ground := Ground.phase }, { on := 10, ground := Ground.phase }, { on := 11, ground := Ground.phase }, { on := 12, ground := Ground.phase }, { on := 13, ground := Ground.phase }], guard := none }) rfl (fun K hK => ?_) (AllReadyH.nil)
          go_simp
          refine hK.out _ _ (Blk.four (Blk.far' (p := ⟨O, 2, none⟩) hRO _ b7)) (fun _ => ?_)
          clear hK
          try simp only [Act.put, List.setIfInBounds_toArray, List.set_cons_zero, List.set_cons_succ]
          refine wpAnyH_done (by kernel_rfl) ?_ _
          have H8 := Lib.hid h8
          have Hnx : Hid ((gw ++ [(g, Value.slice A6 g.wires.length c6)]).map (·.1) = gs.take (n + 1)) := by show _ = _; rw [List.map_append, Hgw.out, Hg.out]; rfl
          clear HC h5 b5 b6 h6 h7 h8 h7c hw6 hb6 hown' hgrow hrr hrr2 y2 yf
          go_wp2_with fail
          go_roundg gk
          case measure => omega
          case rel => exact ⟨n + 1, _, gw ++ [(g, .slice A6 g.wires.length c6)], by omega, by go_num, H8.out, Hnx.out⟩
        case bs =>
          go_simp
          refine hK.out _ _ (Blk.four b6a) (fun _ => ?_)
          clear hK
          try simp only [Act.put, List.setIfInBounds_toArray, List.set_cons_zero, List.set_cons_succ]
          refine wpAnyH_ready (rs := [1]) (by kernel_rfl) (by simp) ?_
          refine AllReadyH.cons (o := { dst := some 19, op := Op.load 23 (Operand.tmp 18), type := 23, pos := "kit.go:127", after := #[{ on := 0, ground := Ground.data }], guard := none }) rfl (fun K hK => ?_) (AllReadyH.nil)
          go_simp
          refine hK.out _ _ (Blk.four b6a) (fun _ => ?_)
          clear hK
          try simp only [Act.put, List.setIfInBounds_toArray, List.set_cons_zero, List.set_cons_succ]
          refine wpAnyH_ready (rs := [13]) (by kernel_rfl) (by simp) ?_
          refine AllReadyH.cons (o := { dst := some 31, op := Op.call { callee := Callee.builtin Builtin.append, args := #[Operand.tmp 19, Operand.tmp 30], argTypes := #[23, 23] }, type := 23, pos := "kit.go:127", after := #[{ on := 1, ground := Ground.data }, { on := 12, ground := Ground.data }, { on := 6, ground := Ground.chain }], guard := none }) rfl (fun K hK => ?_) (AllReadyH.nil)
          refine step_append_one rfl _ _ 23 rfl w.heap.size 61 j0 _ 4 48 Tryz.underlying23 hinf hz0 hz1 hz2 rfl (by decide) (.slice A2 gw.length cc) gw.length (gatesC gw) rfl ((h6.gs.below (below1 w6 (.cells #[.int .i64 g.kind, .slice A6 g.wires.length c6, .int .i64 g.bit, .int .i64 g.ifn] 61))).row) ⟨w6.heap.size, 0, none⟩ 1 1 [.int .i64 g.kind, .slice A6 g.wires.length c6, .int .i64 g.bit, .int .i64 g.ifn] rfl rfl (row_new _ _ _) (by simp [Value.oneCell']) hml (by omega) (by have := h6.kept.size; simp; omega) ?_; intro v' w7 row hown' hgrow hrr; obtain ⟨g', cap', rfl⟩ := ownsRow_succ hown'; have hrr2 : ∀ gb, row = some gb → w.heap.size ≤ gb ∧ ∃ cur, Blk (w6.alloc (.cells #[.int .i64 g.kind, .slice A6 g.wires.length c6, .int .i64 g.bit, .int .i64 g.ifn] 61)) gb 61 cur := (fun gb e => by rcases hrr with h | ⟨g2, cap2, cur2, h2, hv2, _, hb2, _⟩; (rw [h] at e; cases e); (rw [h2] at e; injection e with e; subst e; exact ⟨((h6.gs.row).lt g2 (by rw [hv2]; rfl)).1, cur2, hb2⟩)); have h7 := h6.below (below1 w6 (.cells #[.int .i64 g.kind, .slice A6 g.wires.length c6, .int .i64 g.bit, .int .i64 g.ifn] 61)); have h8 := h7.app (p := (g, .slice A6 g.wires.length c6)) (own_below (own_base hw6 hks5) (below1 w6 (.cells #[.int .i64 g.kind, .slice A6 g.wires.length c6, .int .i64 g.bit, .int .i64 g.ifn] 61)) (Nat.le_refl _)) hown' hgrow hrr2; have h7c := h7.out.grown hgrow (fun e => by obtain ⟨_, cur, hb⟩ := hrr2 _ e.symm; exact hb.ne_ h7.out (by decide) rfl); have b7 := b6a.grown hgrow (fun e => by rcases hrr with h | ⟨g2, cap2, cur2, h2, hv2, _, hb2, _⟩; (rw [h] at e; cases e); (rw [h2] at e; injection e with e; have h9 := HRR.out g2 (by rw [hv2]; rfl); omega)); clear y2 y2b yf; have y2 := h7c.cell 2; have yf := h7c.frozen; simp at y2
          refine hK.out _ _ (Blk.four b7) (fun _ => ?_)
          clear hK
          try simp only [Act.put, List.setIfInBounds_toArray, List.set_cons_zero, List.set_cons_succ]
          refine wpAnyH_take (i := 14) (oi := { dst := some 32, op := Op.fieldAddr 25 (Operand.tmp 3) 2, type := 0, pos := "kit.go:127", after := #[{ on := 0, ground := Ground.phase }, { on := 1, ground := Ground.phase }, { on := 2, ground := Ground.phase }, { on := 3, ground := Ground.phase }, { on := 4, ground := Ground.phase }, { on := 5, ground := Ground.phase }, { on := 6, ground := Ground.phase }, { on := 7, ground := Ground.phase }, { on := 8, ground := Ground.phase }, { on := 9, ground := Ground.phase }, { on := 10, ground := Ground.phase }, { on := 11, ground := Ground.phase }, { on := 12, ground := Ground.phase }, { on := 13, ground := Ground.phase }], guard := none }) (v := .pointer (some ⟨O, 2, none⟩)) rfl (by kernel_rfl) (by kernel_rfl) (by kernel_rfl) (fun _ _ _ h => h) (Or.inl ⟨by rfl, fun w hSw => ?_⟩) (Blk.four b7) ?_
          · (try dsimp only at hSw)
            go_split_ands
            go_simp
          try simp only [Act.put, List.setIfInBounds_toArray, List.set_cons_zero, List.set_cons_succ]
          refine wpAnyH_ready (rs := [15]) (by kernel_rfl) (by simp) ?_
          refine AllReadyH.cons (o := { dst := none, op := Op.store 23 (Operand.tmp 32) (Operand.tmp 31), type := 0, pos := "kit.go:127", after := #[{ on := 14, ground := Ground.data }, { on := 13, ground := Ground.data }, { on := 13, ground := Ground.chain }, { on := 0, ground := Ground.phase }, { on := 1, ground := Ground.phase }, { on := 2, ground := Ground.phase }, { on := 3, ground := Ground.phase }, { on := 4, ground := Ground.phase }, { on := 5, ground := Ground.phase }, { on := 6, ground := Ground.phase }, { on := 7, ground := Ground.phase }, { on := 8, ground := Ground.phase }, { on := 9, ground := Ground.phase }, { on := 10, ground := Ground.phase }, { on := 11, ground := Ground.phase }, { on := 12, ground := Ground.phase }, { on := 13, ground := Ground.phase }], guard := none }) rfl (fun K hK => ?_) (AllReadyH.nil)
          go_simp
          refine hK.out _ _ (Blk.four (Blk.far' (p := ⟨O, 2, none⟩) hRO _ b7)) (fun _ => ?_)
          clear hK
          try simp only [Act.put, List.setIfInBounds_toArray, List.set_cons_zero, List.set_cons_succ]
          refine wpAnyH_done (by kernel_rfl) ?_ _
          have H8 := Lib.hid h8
          have Hnx : Hid ((gw ++ [(g, Value.slice A6 g.wires.length c6)]).map (·.1) = gs.take (n + 1)) := by show _ = _; rw [List.map_append, Hgw.out, Hg.out]; rfl
          clear HC h5 b5 b6 h6 h7 h8 h7c hw6 hb6 hown' hgrow hrr hrr2 y2 yf
          go_wp2_with fail
          go_roundg gk
          case measure => omega
          case rel => exact ⟨n + 1, _, gw ++ [(g, .slice A6 g.wires.length c6)], by omega, by go_num, H8.out, Hnx.out⟩
end Go.Proofs.YtonnegkpjmhomaaGreatDoor
end
