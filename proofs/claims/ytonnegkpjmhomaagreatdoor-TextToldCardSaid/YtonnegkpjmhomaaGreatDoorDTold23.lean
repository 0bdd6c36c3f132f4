import Derived.Test.YtonnegkpjmhomaaGreatDoorDTold10
import Derived.Test.YtonnegkpjmhomaaGreatDoorDTold11
import Derived.Test.YtonnegkpjmhomaaGreatDoorDTold18
import Derived.Test.YtonnegkpjmhomaaGreatDoorDTold21
import Derived.Test.YtonnegkpjmhomaaGreatDoorDTold22
set_option linter.all false
section
set_option linter.all false
namespace Go.Proofs.YtonnegkpjmhomaaGreatDoor
open Go.RowKit
theorem BytesAt.below {w w' : World} {a : Option Addr} {n : Nat} (h : BytesAt w a n) (hb : Below w.heap.size w w') : BytesAt w' a n := by
  rcases h with h | ⟨b, off, h1, h2⟩
  · exact .inl h
  · exact .inr ⟨b, off, h1, fun j hj => by
      obtain ⟨z, z0, z1, h3⟩ := h2 j hj
      exact ⟨z, z0, z1, (hb.cell (p := ⟨b, off + j, none⟩) (World.block_lt_of_cell? w _ h3)).trans h3⟩⟩
theorem kindLen {c d : Ct} (hc : chkC c = 0) (hd : chkC d = 0) : KindLen c.gates d.gates := fun g hg h hh e => by
  have h1 := ((chkC_ok hc).2.2.2 g hg).len
  have h2 := ((chkC_ok hd).2.2.2 h hh).len
  rw [e] at h1
  omega
theorem right_short {c : Ct} (hc : chkC c = 0) : ∀ g ∈ c.gates, g.wires.length ≤ 1000000 := fun g hg => by
  have h1 := ((chkC_ok hc).2.2.2 g hg).len
  have h2 := (chkC_ok hc).2.2.2 g hg
  have h3 : arity g.kind ≤ 3 := by
    unfold arity
    split
    · omega
    · split
      · omega
      · split <;> omega
  omega
theorem sTidy_print {c : Ct} (h : chkC c = 0) : sTidy (printP c) = (printP c, 0, 0) := by
  obtain ⟨sp, hs⟩ := sRead_print h
  unfold sTidy
  rw [hs]
  dsimp only
  rw [if_pos rfl]
  unfold sPrint
  rw [if_pos h]
theorem toList_inj {a b : ByteArray} (h : a.toList = b.toList) : a = b := by
  rw [ByteArray.toList_eq, ByteArray.toList_eq] at h
  apply ByteArray.ext
  exact Array.toList_inj.1 h
structure Two (w wx : World) (C D : Nat) (c d : Ct) (gv gv2 : Value) (gw gw2 : List (Gt × Value)) : Prop where
  c : Blk wx C 25 #[.int .i64 c.wires, .int .i64 c.bits, gv]
  d : Blk wx D 25 #[.int .i64 d.wires, .int .i64 d.bits, gv2]
  gc : GsAt wx w.heap.size gv gw
  gd : GsAt wx w.heap.size gv2 gw2
  kept : Below w.heap.size w wx
theorem Two.below {w wx w' : World} {C D : Nat} {c d : Ct} {gv gv2 : Value} {gw gw2 : List (Gt × Value)} (h : Two w wx C D c d gv gv2 gw gw2) (hb : Below wx.heap.size wx w') : Two w w' C D c d gv gv2 gw gw2 :=
  ⟨h.c.below hb h.c.lt, h.d.below hb h.d.lt, h.gc.below hb, h.gd.below hb, bt hb h.kept h.kept.size⟩
theorem Two.alloc {w wx : World} {C D : Nat} {c d : Ct} {gv gv2 : Value} {gw gw2 : List (Gt × Value)} (h : Two w wx C D c d gv gv2 gw gw2) (o : Obj) : Two w (wx.alloc o) C D c d gv gv2 gw gw2 := h.below (below1 wx o)
theorem eq_print {c d : Ct} (hc : chkC c = 0) (hd : chkC d = 0) : ((bs (printP d)).toList == (bs (printP c)).toList) = decide (c = d) := by
  rw [Bool.eq_iff_iff]
  simp only [beq_iff_eq, decide_eq_true_eq]
  constructor
  · intro e
    have e2 : bs (printP d) = bs (printP c) := by
      have h2 := congrArg (fun l : List UInt8 => l.length) e
      exact toList_inj e
    have e3 : printP d = printP c := by have := congrArg (fun x => x.data.toList) e2; rwa [bs_list, bs_list] at this
    exact (printP_inj hd hc e3).symm
  · rintro rfl; rfl
set_option maxRecDepth 100000 in
set_option maxHeartbeats 16000000 in
theorem TextTold_ok (a : Option Addr) (n c : Nat) (a2 : Option Addr) (n2 c2 : Nat) (w : World) (hB : BytesAt w a n) (ha : a = none → n = 0) (hc : n ≤ c) (hB2 : BytesAt w a2 n2) (ha2 : a2 = none → n2 = 0) (hc2 : n2 ≤ c2) (ht : TabsA w) :
    Calls Tryz.prog 8 #[.slice a n c, .slice a2 n2 c2] w fun e w' => e = .returned (.bool true) ∧ Below w.heap.size w w' := by
  have HD1 := Lib.hid (drawn_calls a n c w hB ha hc ht)
  have HD2 := Lib.hid (fun (w' : World) (hb : Below w.heap.size w w') => drawn_calls a2 n2 c2 w' (hB2.below hb) ha2 hc2 (ht.below hb))
  have HT := Lib.hid ht
  clear hB hB2 ht ha ha2 hc hc2
  go_enter Tryz.func8, Tryz.ntmps8
  go_wp2_with fail
  refine HD1.out.mono ?_
  rintro e w1 ⟨W, Bt, gv, gw, b, rfl, hck, hgw, hgs, _, _, k1⟩
  obtain ⟨Ag, cg, rfl⟩ := own_form hgs.row
  clear HD1
  go_upto_region 2 with fail
  have hgs := hgs.below (below1 w1 (.cells #[.int .i64 W, .int .i64 Bt, .slice Ag gw.length cg] 25))
  have hC := Blk.new w1 25 #[.int .i64 W, .int .i64 Bt, .slice Ag gw.length cg]
  have k1 := k1.alloc k1.size (.cells #[.int .i64 W, .int .i64 Bt, .slice Ag gw.length cg] 25)
  generalize w1.alloc (.cells #[.int .i64 W, .int .i64 Bt, .slice Ag gw.length cg] 25) = wa at *
  generalize w1.heap.size = C at *
  go_wp2_with fail
  refine (HD2.out wa k1).mono ?_
  rintro e w2 ⟨W2, Bt2, gv2, gw2, b2, rfl, hck2, hgw2, hgs2, _, _, k2⟩
  obtain ⟨Ag2, cg2, rfl⟩ := own_form hgs2.row
  clear HD2
  have hC := hC.below k2 hC.lt
  have hgs := hgs.below k2
  have hgs2 := hgs2.base k1.size
  have k2 := bt k2 k1 k1.size
  clear k1
  go_upto_region 3 with fail
  have T0 : Two w (w2.alloc (.cells #[.int .i64 W2, .int .i64 Bt2, .slice Ag2 gw2.length cg2] 25)) C w2.heap.size ⟨W, Bt, gw.map (·.1)⟩ ⟨W2, Bt2, gw2.map (·.1)⟩ (.slice Ag gw.length cg) (.slice Ag2 gw2.length cg2) gw gw2 :=
    ⟨hC.alloc _, Blk.new w2 _ _, hgs.below (below1 _ _), hgs2.below (below1 _ _), k2.alloc k2.size _⟩
  have T := Lib.hid T0
  have x0 := T0.c.cell 0
  have x1 := T0.c.cell 1
  have x2 := T0.c.cell 2
  have HCK := Lib.hid hck
  have HCK2 := Lib.hid hck2
  clear hC hgs hgs2 k2 T0
  generalize w2.alloc (.cells #[.int .i64 W2, .int .i64 Bt2, .slice Ag2 gw2.length cg2] 25) = wb at *
  generalize w2.heap.size = D at *
  simp at x0 x1 x2
  obtain ⟨cc, hcc⟩ : ∃ cc : Ct, Hid ((⟨W, Bt, gw.map (·.1)⟩ : Ct) = cc) := ⟨_, rfl⟩
  obtain ⟨dd, hdd⟩ : ∃ dd : Ct, Hid ((⟨W2, Bt2, gw2.map (·.1)⟩ : Ct) = dd) := ⟨_, rfl⟩
  have hpc : sPrint ⟨W, Bt, gw.map (·.1)⟩ = (printP cc, 0) := by unfold sPrint; rw [if_pos HCK.out, hcc.out]
  have hpd : sPrint ⟨W2, Bt2, gw2.map (·.1)⟩ = (printP dd, 0) := by unfold sPrint; rw [if_pos HCK2.out, hdd.out]
  have HP1 := Lib.hid (fun (W' : World) (t : Two w W' C D ⟨W, Bt, gw.map (·.1)⟩ ⟨W2, Bt2, gw2.map (·.1)⟩ (.slice Ag gw.length cg) (.slice Ag2 gw2.length cg2) gw gw2) => Print_calls W Bt _ _ _ W' (Nat.le_refl _) t.gc.gates (right_short HCK.out) ((HT.out.below t.kept).tabs))
  have HP2 := Lib.hid (fun (W' : World) (t : Two w W' C D ⟨W, Bt, gw.map (·.1)⟩ ⟨W2, Bt2, gw2.map (·.1)⟩ (.slice Ag gw.length cg) (.slice Ag2 gw2.length cg2) gw gw2) => Print_calls W2 Bt2 _ _ _ W' (Nat.le_refl _) t.gd.gates (right_short HCK2.out) ((HT.out.below t.kept).tabs))
  rw [hpc] at HP1
  rw [hpd] at HP2
  clear hpc hpd
  have hccr : Hid (chkC cc = 0) := by show _ = _; rw [← hcc.out]; exact HCK.out
  have hddr : Hid (chkC dd = 0) := by show _ = _; rw [← hdd.out]; exact HCK2.out
  obtain ⟨sp, hrd⟩ : ∃ sp, Hid (sRead (printP cc) = (cc, sp, 0, 0)) := sRead_print hccr.out
  have hlen : (printP cc).length ≤ 1000000 := Nat.le_trans (printP_short hccr.out) (by decide)
  have HPA := Lib.hid (fun (W' : World) (h : Tabs W') => Parse_calls (printP cc) hlen W' h)
  rw [hrd.out] at HPA
  have HTI := Lib.hid (fun (W' : World) (h : Tabs W') => Tidy_calls (printP cc) hlen W' h)
  rw [sTidy_print hccr.out] at HTI
  go_wp2_with fail
  refine (HP1.out _ T.out).mono ?_
  rintro e w3 ⟨rfl, k3⟩
  have T := Lib.hid (T.out.below k3)
  clear k3 x0 x1 x2
  dsimp only
  go_wp2_with fail
  refine (HPA.out _ (HT.out.below T.out.kept).tabs).mono ?_
  rintro e w4 ⟨gv4, gw4, rfl, hgm, hg4, k4⟩
  obtain ⟨A4, c4, rfl⟩ := own_form hg4.row
  have T := Lib.hid (T.out.below k4)
  clear k4
  dsimp only at hgm ⊢
  go_upto_region 5 with fail
  have hX := Blk.new w4 25 #[.int .i64 cc.wires, .int .i64 cc.bits, .slice A4 gw4.length c4]
  have hg4 := hg4.below (below1 w4 (.cells #[.int .i64 cc.wires, .int .i64 cc.bits, .slice A4 gw4.length c4] 25))
  have T := Lib.hid (T.out.alloc (.cells #[.int .i64 cc.wires, .int .i64 cc.bits, .slice A4 gw4.length c4] 25))
  generalize w4.alloc (.cells #[.int .i64 cc.wires, .int .i64 cc.bits, .slice A4 gw4.length c4] 25) = w5 at *
  generalize w4.heap.size = X at *
  go_wp2_with fail
  refine (HTI.out _ (HT.out.below T.out.kept).tabs).mono ?_
  rintro e w6 ⟨rfl, k6⟩
  have hX := hX.below k6 hX.lt
  have hg4 := hg4.below k6
  have T := Lib.hid (T.out.below k6)
  clear k6
  go_upto_region 6 with fail
  have x0 := T.out.d.cell 0
  have x1 := T.out.d.cell 1
  have x2 := T.out.d.cell 2
  simp at x0 x1 x2
  go_wp2_with fail
  refine (HP2.out _ T.out).mono ?_
  rintro e w7 ⟨rfl, k7⟩
  have hX := hX.below k7 hX.lt
  have hg4 := hg4.below k7
  have T := Lib.hid (T.out.below k7)
  clear k7 x0 x1 x2 HTI HPA HP1 HP2
  have hgg := hg4.gates
  rw [hgm] at hgg
  have hXc := fun W' (k : Below w7.heap.size w7 W') => Same_gen cc ⟨W, Bt, gw.map (·.1)⟩ _ _ _ W' k.size (hgg.below k) ((T.out.gc.gates).below k) (kindLen hccr.out HCK.out) (right_short hccr.out)
  have hCd := fun W' (t : Two w W' C D ⟨W, Bt, gw.map (·.1)⟩ ⟨W2, Bt2, gw2.map (·.1)⟩ (.slice Ag gw.length cg) (.slice Ag2 gw2.length cg2) gw gw2) => Same_gen ⟨W, Bt, gw.map (·.1)⟩ ⟨W2, Bt2, gw2.map (·.1)⟩ _ _ _ W' (Nat.le_refl _) t.gc.gates t.gd.gates (kindLen HCK.out HCK2.out) (right_short HCK.out)
  rw [decide_eq_true hcc.out.symm] at hXc
  obtain ⟨q, hq⟩ : ∃ q, Hid (decide (cc = dd) = q) := ⟨_, rfl⟩
  have hqe : ((bs (printP dd)).toList == (bs (printP cc)).toList) = q := (eq_print hccr.out hddr.out).trans hq.out
  have hdq : decide ((⟨W, Bt, gw.map (·.1)⟩ : Ct) = ⟨W2, Bt2, gw2.map (·.1)⟩) = q := by rw [hcc.out, hdd.out]; exact hq.out
  rw [hdq] at hCd
  dsimp only at hXc hCd
  have HXC := Lib.hid hXc
  have HCD := Lib.hid hCd
  clear hXc hCd hgg
  have HQ : Hid (q = q) := rfl
  have hgl : cc.gates.length = gw.length := by rw [← hcc.out]; simp
  obtain ⟨hs1, hs2⟩ := print_split hccr.out
  have hsl : (bs (printP cc)).size < 4294967281 := by rw [bs_size]; omega
  have HSP := Lib.hid (fun (m : Int) (W' : World) hm => Tryz.strings_Split (bs (printP cc)) (bs [10]) m W' hsl hm (by rw [bs_size]; decide))
  rw [hs1, hs2, hgl] at HSP
  have HSH := Lib.hid (fun (g : Gt) (wv : Value) (W' : World) (hg : g ∈ gw.map (·.1)) (hv : IntsAt W' W'.heap.size wv g.wires) (ht : Tabs W') => Show_calls g wv _ W' (Nat.le_refl _) hv ht)
  have HGL : Hid (cc.gates = gw.map (·.1)) := by show _ = _; rw [← hcc.out]
  clear hdq hlen hs1 hs2 hsl hgl
  generalize bs (printP cc) = S at *
  generalize bs (printP dd) = U at *
  have x0 := hX.cell 0
  have x1 := hX.cell 1
  have x2 := hX.cell 2
  have y0 := T.out.c.cell 0
  have y1 := T.out.c.cell 1
  have y2 := T.out.c.cell 2
  simp at x0 x1 x2 y0 y1 y2
  clear hgs hgs2 hck hck2 hgm hC
  go_wp2_with fail
  refine (HXC.out _ (Below.refl _ _)).mono ?_
  rintro e w8 ⟨rfl, k8⟩
  have T := Lib.hid (T.out.below k8)
  clear k8 x0 x1 x2 y0 y1 y2 hX hg4 HXC
  have y0 := T.out.c.cell 0
  have y1 := T.out.c.cell 1
  have y2 := T.out.c.cell 2
  have z0 := T.out.d.cell 0
  have z1 := T.out.d.cell 1
  have z2 := T.out.d.cell 2
  simp at y0 y1 y2 z0 z1 z2
  go_wp2_with fail
  refine (HCD.out _ T.out).mono ?_
  rintro e w9 ⟨rfl, k9⟩
  have T := Lib.hid (T.out.below k9)
  clear k9 z0 z1 z2 y0 y1 y2 HCD
  obtain ⟨m, hm⟩ := (HT.out.below T.out.kept).tabs.2.1
  go_wp2_with fail
  obtain ⟨N, hN, hN2⟩ : ∃ N : Nat, Hid (gw.length + 1 + 1 = N) ∧ (N : Int) = (gw.length : Int) + 2 := ⟨_, rfl, by omega⟩
  rw [hN.out] at HSP
  refine (HSP.out m _ hm).mono ?_
  rintro e w10 ⟨rfl, rfl⟩
  have hL := Blk.new w9 9 ((((headLine cc :: cc.gates.map shownP ++ [[]]).map bs).map Value.string).toArray)
  have T := Lib.hid (T.out.alloc (.cells ((((headLine cc :: cc.gates.map shownP ++ [[]]).map bs).map Value.string).toArray) 9))
  have hgl : cc.gates.length = gw.length := by rw [HGL.out, List.length_map]
  have hlast : (w9.alloc (.cells ((((headLine cc :: cc.gates.map shownP ++ [[]]).map bs).map Value.string).toArray) 9)).cell? ⟨w9.heap.size, N - 1, none⟩ = some (.string ⟨#[]⟩) := by
    rw [hL.cell (N - 1)]
    have e : N - 1 = (headLine cc :: cc.gates.map shownP).length := by have := hN.out; rw [List.length_cons, List.length_map]; omega
    rw [List.getElem?_toArray, List.getElem?_map, List.getElem?_map, e, List.getElem?_append_right (Nat.le_refl _), Nat.sub_self]
    rfl
  have hline : ∀ j g, (gw.map (·.1))[j]? = some g → (w9.alloc (.cells ((((headLine cc :: cc.gates.map shownP ++ [[]]).map bs).map Value.string).toArray) 9)).cell? ⟨w9.heap.size, j + 1, none⟩ = some (.string (bs (shownP g))) := by
    intro j g hj
    rw [← HGL.out] at hj
    have hjl := (List.getElem?_eq_some_iff.1 hj).1
    rw [hL.cell (j + 1), List.getElem?_toArray, List.getElem?_map, List.getElem?_map, List.getElem?_append_left (by rw [List.length_cons, List.length_map]; omega), List.getElem?_cons_succ, List.getElem?_map, hj]
    rfl
  have hXl := hL.lt
  generalize w9.alloc (.cells ((((headLine cc :: cc.gates.map shownP ++ [[]]).map bs).map Value.string).toArray) 9) = wc at *
  generalize w9.heap.size = Y at *
  have HLI := Lib.hid hline
  have y0 := T.out.c.cell 0
  have y1 := T.out.c.cell 1
  have y2 := T.out.c.cell 2
  simp at y0 y1 y2
  have hN3 : ((N : Int) != (gw.length : Int) + 2) = false := by rw [hN2]; exact bne_self_eq_false _
  have hN4 : (0 : Int) ≤ (N : Int) - 1 := by omega
  have hN5 : (1 : Int) ≤ (N : Int) := by omega
  have hN6 : ((N : Int) - 1).toNat = N - 1 := by omega
  have hN7 : (N : Int) ≤ 1000 := by omega
  have HN2 := Lib.hid hN2
  clear HSP hL hm hline hgl hN2
  go_wp2_with fail
  clear hlast y0 y1 y2 hN3 hN4 hN6
  go_loopg [117, 20, 21, 22, 23] gw.length (fun gk s117 _ _ _ _ wr => ∃ j : Nat, j + gk = gw.length ∧ s117 = .int .i64 j ∧ Below wc.heap.size wc wr)
  case atStart => exact ⟨0, by omega, rfl, Below.refl _ _⟩
  case round =>
    obtain ⟨j, hj, rfl, k⟩ := hrel
    have Tr := T.out.below k
    cases gk with
    | zero =>
      obtain rfl : j = gw.length := by omega
      have HK := Lib.hid Tr.kept
      have HTr := Lib.hid (HT.out.below Tr.kept).tabs
      clear Tr k
      go_wp2_with fail
      refine (awake_calls _ HTr.out).mono ?_
      rintro e w11 ⟨rfl, k11⟩
      have HF := Lib.hid (bt k11 HK.out HK.out.size)
      clear k11
      go_wp2_with fail
      go_ret
      exact ⟨rfl, HF.out⟩
    | succ g1 =>
      have hlt : (j : Int) < (gw.length : Int) := by omega
      have hlt2 : j < gw.length := by omega
      have hj0 : (0 : Int) ≤ (j : Int) := by omega
      have hj1 : (j : Int) + 1 < (N : Int) := by have := HN2.out; omega
      have hjw : IntKind.i64.wrap ((j : Int) + 1) = (j : Int) + 1 := IntWalk.i64_in _ (by omega)
      have hjt : ((j : Int) + 1).toNat = j + 1 := by omega
      have hj2 : (0 : Int) ≤ (j : Int) + 1 := by omega
      obtain ⟨g, hgm⟩ : ∃ g, (gw.map (·.1))[j]? = some g := ⟨(gw.map (·.1))[j]'(by rw [List.length_map]; exact hlt2), List.getElem?_eq_getElem _⟩
      have hgmem := List.mem_of_getElem? hgm
      obtain ⟨A', c', e1, _, _, h3⟩ := Tr.gc.gates.form
      rw [List.length_map] at e1
      injection e1 with e1 _ e3
      subst e1 e3
      obtain ⟨gb, go, rfl, hgb, hcell⟩ := h3 (by intro h0; rw [h0] at hgm; cases hgm)
      obtain ⟨wv, hwv, x0, x1, x2, x3⟩ := hcell j g hgm
      obtain ⟨Dv, dv, rfl, _⟩ := hwv.form
      have hln := (k.cell (p := ⟨Y, j + 1, none⟩) hXl).trans (HLI.out j g hgm)
      have hbx := below1 wr (.cells #[.int .i64 g.kind, .slice Dv g.wires.length dv, .int .i64 g.bit, .int .i64 g.ifn] 61)
      have hck : chkG W Bt g = 0 := chkC_gates HCK.out g hgmem
      have hss := HSH.out g _ _ hgmem ((hwv.below hbx).more hbx.size) ((HT.out.below Tr.kept).tabs.below hbx)
      rw [sShow_ok (by have := (chkC_ok HCK.out).1; dsimp only at this; omega) (by have := (chkC_ok HCK.out).2.1; dsimp only at this; omega) hck] at hss
      have HSS := Lib.hid hss
      have k2 := k.alloc k.size (.cells #[.int .i64 g.kind, .slice Dv g.wires.length dv, .int .i64 g.bit, .int .i64 g.ifn] 61)
      have hln2 : (wr.alloc (.cells #[.int .i64 g.kind, .slice Dv g.wires.length dv, .int .i64 g.bit, .int .i64 g.ifn] 61)).cell? ⟨Y, j + 1, none⟩ = some (.string (bs (shownP g))) := Lib.cell?_alloc_some _ hln
      have HLN := Lib.hid hln2
      have hYl : Y < (wr.alloc (.cells #[.int .i64 g.kind, .slice Dv g.wires.length dv, .int .i64 g.bit, .int .i64 g.ifn] 61)).heap.size := Nat.lt_of_lt_of_le hXl k2.size
      have HYL := Lib.hid hYl
      clear Tr hcell h3 hwv hbx hck hss k hln hln2 hgm hgmem hYl
      dsimp only at *
      go_wp2_with fail
      refine HSS.out.mono ?_
      rintro e w11 ⟨rfl, k11⟩
      have hl11 := (k11.cell (p := ⟨Y, j + 1, none⟩) HYL.out).trans HLN.out
      have k12 := bt k11 k2 k2.size
      clear k11 k2 x0 x1 x2 x3 HSS HLN HYL
      go_wp2_with fail
      go_roundg g1
      case measure => omega
      case rel => exact ⟨j + 1, by omega, by go_num, k12⟩
end Go.Proofs.YtonnegkpjmhomaaGreatDoor
end
