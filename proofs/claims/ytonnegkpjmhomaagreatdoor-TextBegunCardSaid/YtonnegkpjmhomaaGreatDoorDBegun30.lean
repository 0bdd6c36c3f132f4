import Derived.Laws.Runes
import Derived.Test.YtonnegkpjmhomaaGreatDoorDBegun10
import Derived.Test.YtonnegkpjmhomaaGreatDoorDBegun28
import Derived.Test.YtonnegkpjmhomaaGreatDoorDBegun29
set_option linter.all false
section
set_option linter.all false
namespace Go.Proofs.YtonnegkpjmhomaaGreatDoor
open Go.RowKit
theorem laidT_at {l : List (List UInt8 × List UInt8)} {tl : List UInt8} {i : Nat} {g t : List UInt8} (h : l[i]? = some (g, t)) :
    (atsT l)[i]? = some (((laidT (l.take i) g).length : Nat) : Int) ∧ laidT (l.take (i + 1)) [] = laidT (l.take i) g ++ t ∧ laidT l tl = laidT (l.take i) g ++ (t ++ laidT (l.drop (i + 1)) tl) := by
  have hi : i < l.length := by
    rcases Nat.lt_or_ge i l.length with h1 | h1
    · exact h1
    · rw [List.getElem?_eq_none h1] at h; cases h
  have hg : l[i] = (g, t) := by rw [List.getElem?_eq_getElem hi] at h; exact Option.some.inj h
  have e : l = l.take i ++ ((g, t) :: l.drop (i + 1)) := by rw [← hg, ← List.drop_eq_getElem_cons hi, List.take_append_drop]
  have hlen : (l.take i).length = i := by rw [List.length_take]; omega
  refine ⟨?_, ?_, ?_⟩
  · unfold atsT
    conv => lhs; rw [e]
    rw [partsT_app, List.map_append, List.getElem?_append_right (by rw [List.length_map, partsT_len, hlen]; exact Nat.le_refl _), List.length_map, partsT_len, hlen, Nat.sub_self]
    have := laidT_end (l.take i) [] g
    rw [List.nil_append] at this
    rw [this, List.length_append]
    simp [partsT]
  · rw [List.take_succ_eq_append_getElem hi, hg, laidT_app, ← laidT_end]
    show laidT (l.take i) (g ++ (t ++ [])) = _
    rw [List.append_nil]
  · conv => lhs; rw [e]
    rw [laidT_app, ← laidT_end]
    rfl
theorem ints_at {w : World} {n0 : Nat} {A : Option Addr} {c n : Nat} {zs : List Int} (hn : zs.length = n) (h : w.ownsRow n0 3 1 (.slice A n c) n (zs.map (Value.int .i64))) (j : Nat) (x : Int) (hj : zs[j]? = some x) : ∃ g, A = some ⟨g, 0, none⟩ ∧ w.cell? ⟨g, j, none⟩ = some (.int .i64 x) := by
  subst hn
  have hjl : j < zs.length := by
    rcases Nat.lt_or_ge j zs.length with h | h
    · exact h
    · rw [List.getElem?_eq_none h] at hj; cases hj
  rcases h.2 with ⟨_, h0⟩ | ⟨g, c', cur, hA, _, hg, hnc, hcm, hcs, htk⟩
  · have : zs = [] := by simpa using h0
    subst this; cases hj
  · injection hA with hA
    refine ⟨g, hA, ?_⟩
    have e2 : (cur.toList.take (zs.length * 1))[j]? = (zs.map (Value.int .i64))[j]? := by rw [htk]
    rw [List.getElem?_take, if_pos (by omega), List.getElem?_map, hj] at e2
    exact (cell_of_row w g _ cur _ (0, 0) hg).trans (by simpa using e2)
theorem atsT_len (l : List (List UInt8 × List UInt8)) : (atsT l).length = l.length := by unfold atsT; rw [List.length_map, partsT_len]
theorem closed_at {l : List (List UInt8 × List UInt8)} {i k : Nat} {g t : List UInt8} (h : LaidOk k l) (hi : l[i]? = some (g, t)) : Closed g := by
  induction l generalizing i k with
  | nil => cases hi
  | cons x l ih =>
    obtain ⟨g', t'⟩ := x
    cases i with
    | zero => simp at hi; obtain ⟨rfl, rfl⟩ := hi; exact h.1
    | succ i => exact ih h.2.2.2 (by simpa using hi)
def behL : List UInt8 := [48, 32, 49, 59, 58, 104, 120, 35, 10, 122, 115, 63]
theorem enc_beh : ∀ d : Fin 12, Utf8.encode (((behL.getD d.val 0).toNat : Nat) : Int) = bs [behL.getD d.val 0] := by decide
theorem beh_at (d : Nat) (h : d < 12) : ∃ x : UInt8, (∀ hx, ((⟨#[48, 32, 49, 59, 58, 104, 120, 35, 10, 122, 115, 63]⟩ : ByteArray)[d]'hx) = x) ∧ Utf8.encode ((x.toNat : Nat) : Int) = bs [x] := by
  refine ⟨behL.getD d 0, fun hx => ?_, enc_beh ⟨d, h⟩⟩
  have : (⟨#[48, 32, 49, 59, 58, 104, 120, 35, 10, 122, 115, 63]⟩ : ByteArray) = bs behL := rfl
  match d, h with
  | 0, _ => rfl
  | 1, _ => rfl
  | 2, _ => rfl
  | 3, _ => rfl
  | 4, _ => rfl
  | 5, _ => rfl
  | 6, _ => rfl
  | 7, _ => rfl
  | 8, _ => rfl
  | 9, _ => rfl
  | 10, _ => rfl
  | 11, _ => rfl
theorem below1_of {w w5 : World} (h : Below w.heap.size w w5) (o : Obj) : Below w.heap.size w (w5.alloc o) := h.alloc h.size o
structure Lst (w wx : World) (C : Nat) (cs : Array Value) (lv av : Value) (ts : List (List UInt8)) (ps : List Int) : Prop where
  box : Blk wx C 25 cs
  toks : wx.ownsRow w.heap.size 9 1 lv ts.length (ts.map tokV)
  ats : wx.ownsRow w.heap.size 3 1 av ts.length (ps.map (Value.int .i64))
  kept : Below w.heap.size w wx
theorem Lst.below {w wx w' : World} {C : Nat} {cs : Array Value} {lv av : Value} {ts : List (List UInt8)} {ps : List Int} (h : Lst w wx C cs lv av ts ps) (hb : Below wx.heap.size wx w') : Lst w w' C cs lv av ts ps :=
  ⟨h.box.below hb h.box.lt, own_below h.toks hb (Nat.le_refl _), own_below h.ats hb (Nat.le_refl _), bt hb h.kept h.kept.size⟩
set_option maxRecDepth 100000 in
set_option maxHeartbeats 16000000 in
theorem TextBegun_ok (a : Option Addr) (n c : Nat) (a2 : Option Addr) (n2 c2 : Nat) (a3 : Option Addr) (n3 c3 : Nat) (cut : Int) (w : World) (hB : BytesAt w a n) (ha : a = none → n = 0) (hc : n ≤ c) (hB2 : BytesAt w a2 n2) (ha2 : a2 = none → n2 = 0) (hc2 : n2 ≤ c2)
    (hB3 : BytesAt w a3 n3) (ha3 : a3 = none → n3 = 0) (hc3 : n3 ≤ c3) (hcu : 0 ≤ cut ∧ cut ≤ 255) (ht : TabsA w) :
    Calls Tryz.prog 3 #[.slice a n c, .slice a2 n2 c2, .slice a3 n3 c3, .int .u8 cut] w fun e w' => e = .returned (.bool true) ∧ Below w.heap.size w w' := by
  have HD1 := Lib.hid (drawn_calls a n c w hB ha hc ht)
  have HOf := Lib.hid (fun (w' : World) (hb : Below w.heap.size w w') => store_calls a2 n2 c2 w' (hB2.below hb) ha2 hc2)
  have HT := Lib.hid ht
  have HB3 := Lib.hid hB3
  clear hB hB2 hB3 ht ha ha2 hc hc2
  go_enter Tryz.func3, Tryz.ntmps3
  go_wp2_with fail
  refine HD1.out.mono ?_
  rintro e w1 ⟨W, Bt, gv, gw, b, rfl, hck, hgw, hgs, _, _, k1⟩
  obtain ⟨Ag, cg, rfl⟩ := own_form hgs.row
  clear HD1
  go_upto_region 2 with fail
  have hgs := hgs.below (below1 w1 (.cells #[.int .i64 W, .int .i64 Bt, .slice Ag gw.length cg] 25))
  have hC := Blk.new w1 25 #[.int .i64 W, .int .i64 Bt, .slice Ag gw.length cg]
  have k1 := k1.alloc k1.size (.cells #[.int .i64 W, .int .i64 Bt, .slice Ag gw.length cg] 25)
  have hk1w := k1.size
  generalize w1.alloc (.cells #[.int .i64 W, .int .i64 Bt, .slice Ag gw.length cg] 25) = wa at *
  generalize w1.heap.size = C at *
  have x0 := hC.cell 0
  have x1 := hC.cell 1
  have x2 := hC.cell 2
  simp at x0 x1 x2
  obtain ⟨cc, hcc⟩ : ∃ cc : Ct, Hid ((⟨W, Bt, gw.map (·.1)⟩ : Ct) = cc) := ⟨_, rfl⟩
  have hcr : Hid (chkC cc = 0) := by show _ = _; rw [← hcc.out]; exact hck
  have hcl : Hid (cc.gates.length ≤ 12) := by show _ ≤ _; rw [← hcc.out]; show (gw.map (·.1)).length ≤ 12; rw [List.length_map]; exact hgw
  have HPa : Hid (Calls Tryz.prog 10 #[.agg #[.int .i64 W, .int .i64 Bt, .slice Ag gw.length cg], .bool false] wa fun e w' => ∃ lv ov, e = .returned (.tuple #[lv, ov]) ∧ Pst wa w' lv ov (toksAll cc false) (ofC cc false)) := by
    rw [← hcc.out]
    have h := lawParts_calls ⟨W, Bt, gw.map (·.1)⟩ false (.slice Ag gw.length cg) wa hck (by rw [List.length_map]; exact hgw) hgs.gates
    exact h
  have HC := Lib.hid hC
  clear hgs hC hck
  go_wp2_with fail
  refine HPa.out.mono ?_
  rintro e w2 ⟨lv, ov, rfl, hp⟩
  have hlo := hp.l
  obtain ⟨Al, cl, rfl⟩ := own_form hlo
  have k2 := bt hp.kept k1 k1.size
  have hkk := hp.kept.size
  have HL := Lib.hid hlo
  have HC2 := Lib.hid (HC.out.below hp.kept HC.out.lt)
  have K2 := Lib.hid k2
  clear hp hlo k2 HPa x0 x1 x2
  go_wp2_with fail
  refine (HOf.out w2 K2.out).mono ?_
  rintro e w3 ⟨b3, rfl, hb3, hs3, k3⟩
  have hls : Hid ((toksAll cc false).length ≤ 113) := by show _ ≤ _; exact toksAll_len false hcr.out hcl.out
  have HLd := Lib.hid (lawLaid_calls b3 b3 0 Al cl (toksAll cc false) w3 hs3 (by omega) wa.heap.size (own_below HL.out k3 (Nat.le_refl _)) (toksAll_tok false hcr.out) (by have := hls.out; omega))
  have HT3 := Lib.hid (own_base (own_below HL.out k3 (Nat.le_refl _)) hk1w)
  have HC3 := Lib.hid (HC2.out.below k3 HC2.out.lt)
  have k3 := bt k3 K2.out K2.out.size
  have hb3w : w.heap.size ≤ b3 := Nat.le_trans K2.out.size hb3
  clear HOf HL K2 hb3 HC HC2 hkk
  have HS3 := Lib.hid hs3
  clear hs3
  go_wp2_with fail
  refine HLd.out.mono ?_
  rintro e w4 ⟨l, tl, av, rfl, hlt, hlo, hfl, hln, hav, _, hg4⟩
  obtain ⟨Av, cv, rfl⟩ := own_form hav
  have L0 : Lst w w4 C #[.int .i64 W, .int .i64 Bt, .slice Ag gw.length cg] (.slice Al (toksAll cc false).length cl) (.slice Av (toksAll cc false).length cv) (toksAll cc false) (atsT l) :=
    ⟨HS3.out.blkKeep hg4 HC3.out (by decide), HS3.out.ownKeep hg4 HT3.out (by decide), own_base hav k3.size, below_grown' k3 hg4 hb3w⟩
  have HLs := Lib.hid L0
  obtain ⟨s, Hs, hsl⟩ : ∃ s, Hid (laidT l tl = s) ∧ s.length ≤ 2000 := ⟨laidT l tl, by show _ = _; rfl, by have := hls.out; omega⟩
  rw [Hs.out]
  have hsz : (bs s).size = s.length := bs_size s
  have Hcn : Hid (cc.gates.length = gw.length) := by show _ = _; rw [← hcc.out]; show (gw.map (·.1)).length = _; rw [List.length_map]
  obtain ⟨ts, Hts⟩ : ∃ ts, Hid (toksAll cc false = ts) := ⟨_, rfl⟩
  have HLc : Hid (LaidC cc false l tl) := ⟨hcr.out, hlo, hfl, hlt⟩
  rw [Hts.out] at HLs hlt hls ⊢
  have Hlt := Lib.hid hlt
  have htl3 : 3 ≤ ts.length := by rw [← Hts.out]; unfold toksAll; rw [List.length_append]; have := (toksH_len cc false).2; omega
  have htl4 : ts.length ≤ 113 := hls.out
  clear HLd k3 hg4 hln hlt hlo hfl L0 hav HS3 HT3 HC3
  go_upto_region 5 with fail
  go_loopg [51] ts.length (fun gk s51 wr => ∃ i : Nat, i + gk = ts.length ∧ s51 = .int .i64 i ∧ Lst w wr C #[.int .i64 W, .int .i64 Bt, .slice Ag gw.length cg] (.slice Al ts.length cl) (.slice Av ts.length cv) ts (atsT l))
  case atStart => exact ⟨0, by omega, rfl, HLs.out⟩
  case round =>
    clear HLs
    obtain ⟨i, hi, rfl, hL⟩ := hrel
    have HL := Lib.hid hL
    cases gk with
    | zero =>
      obtain rfl : i = ts.length := by omega
      obtain ⟨cu, rfl⟩ : ∃ n : Nat, cut = n := ⟨cut.toNat, by omega⟩
      obtain ⟨kk, hkk⟩ : ∃ kk, cu % ts.length = kk := ⟨_, rfl⟩
      have hrem : Int.tmod (cu : Int) (ts.length : Int) = (kk : Int) := by rw [Int.tmod_eq_emod_of_nonneg (by omega), ← hkk]; rfl
      have hkl : kk < ts.length := by rw [← hkk]; exact Nat.mod_lt _ (by omega)
      have hkli : (kk : Int) < (ts.length : Int) := by omega
      have hk0 : (0 : Int) ≤ (kk : Int) := by omega
      have hne : (ts.length : Int) ≠ 0 := by omega
      clear hkk
      have hll : kk < l.length := by have := congrArg List.length Hlt.out; rw [List.length_map] at this; omega
      obtain ⟨⟨g, t⟩, hgt⟩ : ∃ x, l[kk]? = some x := ⟨l[kk], List.getElem?_eq_getElem hll⟩
      obtain ⟨hat, hpre, hall⟩ := laidT_at (tl := tl) hgt
      have hal : (atsT l).length = ts.length := by rw [atsT_len, ← Hlt.out, List.length_map]
      obtain ⟨gb, hgb, xa⟩ := ints_at hal hL.ats kk _ hat
      cases hgb
      obtain ⟨al, hal2⟩ : ∃ al, (laidT (l.take kk) g).length = al := ⟨_, rfl⟩
      rw [hal2] at xa
      have Hall : Hid (s = laidT (l.take kk) g ++ (t ++ laidT (l.drop (kk + 1)) tl)) := by show _ = _; rw [← Hs.out, hall]
      have has : al ≤ s.length := by rw [Hall.out, List.length_append]; omega
      obtain ⟨bad, Hbad⟩ : ∃ bad, Hid (laidT (l.take kk) (g ++ 63 :: (t ++ laidT (l.drop (kk + 1)) tl)) = bad) := ⟨_, rfl⟩
      have Hbe : Hid (bad = s.take al ++ [63] ++ s.drop al) := by
        show _ = _
        have e1 := laidT_end (l.take kk) g (63 :: (t ++ laidT (l.drop (kk + 1)) tl))
        rw [← Hbad.out, e1, Hall.out, ← hal2, List.take_left, List.drop_left, List.append_assoc]
        rfl
      have hbl : bad.length = s.length + 1 := by rw [Hbe.out, List.length_append, List.length_append, List.length_take, List.length_drop]; simp; omega
      have hx1 : (bs s).extract 0 al = bs (s.take al) := bs_extract_to s al
      have hx2 : (bs s).extract al s.length = bs (s.drop al) := bs_extract_from s al s.length (Nat.le_refl _)
      obtain ⟨q1, Hq1⟩ : ∃ q, Hid (s.take al ++ [63] = q) := ⟨s.take al ++ [63], by show _ = _; rfl⟩
      have hca1 : bs (s.take al) ++ (⟨#[63]⟩ : ByteArray) = bs q1 := by rw [← Hq1.out]; exact bs_append _ _
      have hca2 : bs q1 ++ bs (s.drop al) = bs bad := by rw [Hbe.out, ← Hq1.out]; exact bs_append _ _
      have hz1 : (bs (s.take al)).size = al := by rw [bs_size, List.length_take]; omega
      have hz2 : (bs q1).size = al + 1 := by rw [bs_size, ← Hq1.out, List.length_append, List.length_take]; simp; omega
      have hz3 : (bs (s.drop al)).size = s.length - al := by rw [bs_size, List.length_drop]
      have hz4 : (bs bad).size = s.length + 1 := by rw [bs_size, hbl]
      have hc1 : ¬ 9223372036854775807 < (bs (s.take al)).size + 1 := by omega
      have hc2 : ¬ 9223372036854775807 < (bs q1).size + (bs (s.drop al)).size := by omega
      have hrd := sRead_bad (b := false) (k := kk) (g := g) (r := t ++ laidT (l.drop (kk + 1)) tl) HLc.out.right HLc.out.ok (closed_at HLc.out.ok hgt) HLc.out.toks (by omega) (by rw [Hbad.out]; omega)
      rw [Hbad.out, hal2] at hrd
      have hpa := fun W' h => Parse_calls bad (by omega) W' h
      rw [hrd] at hpa
      have HPa := Lib.hid hpa
      clear hpa hrd hpre hall hat hal hll
      have Htk : Hid (bad.take (al + 1) = q1) := by
        show _ = _
        have e1 : q1.length = al + 1 := by rw [← Hq1.out, List.length_append, List.length_take]; simp; omega
        rw [Hbe.out, Hq1.out, ← e1, List.take_left]
      have Hq2 : Hid (∀ r, laidT (l.take kk) (g ++ 63 :: r) = q1 ++ r) := by
        show ∀ r, _
        intro r
        have e1 := laidT_end (l.take kk) g (63 :: r)
        have e2 : laidT (l.take kk) g = s.take al := by rw [Hall.out, ← hal2, List.take_left]
        rw [e1, e2, ← Hq1.out, List.append_assoc]; rfl
      have Hcl := Lib.hid (closed_at HLc.out.ok hgt)
      have Hal := Lib.hid hal2
      generalize s.take al = qa at *
      generalize s.drop al = qb at *
      clear Hbe Hall hL hgt hal2
      go_upto_region 15 with fail
      go_quiet (fail)
      have L6 : Lst w (wr.drewN nq) C #[.int .i64 W, .int .i64 Bt, .slice Ag gw.length cg] (.slice Al ts.length cl) (.slice (some ⟨gb, 0, none⟩) ts.length cv) ts (atsT l) := ⟨HL.out.box.drewN nq, HL.out.toks, HL.out.ats, belowN HL.out.kept nq⟩
      have L6 := Lib.hid L6
      have xa : (wr.drewN nq).cell? ⟨gb, kk, none⟩ = some (.int .i64 al) := xa
      clear HL hx1 hx2 hca1 hca2 hz1 hz3 hc1 hc2
      generalize wr.drewN nq = wd at *
      go_wp2_with fail
      refine (HPa.out _ (HT.out.below L6.out.kept).tabs).mono ?_
      rintro e w6 ⟨gv6, gw6, rfl, _, hgs6, k6⟩
      obtain ⟨A6, c6, rfl⟩ := own_form hgs6.row
      have L7 := Lib.hid (L6.out.below (below1_of k6 (.cells #[.int .i64 Ct.zero.wires, .int .i64 Ct.zero.bits, .slice A6 gw6.length c6] 25)))
      have xa := (below1_of k6 (.cells #[.int .i64 Ct.zero.wires, .int .i64 Ct.zero.bits, .slice A6 gw6.length c6] 25)).cell (p := ⟨gb, kk, none⟩) (World.block_lt_of_cell? wd _ xa) |>.trans xa
      clear HPa hgs6 k6 L6
      have hxt : (bs bad).extract 0 (al + 1) = bs q1 := by rw [bs_extract_to, Htk.out]
      have hal1 : (al : Int) + 1 ≤ 3000 := by omega
      go_upto_region 17 with fail
      generalize w6.alloc (.cells #[.int .i64 Ct.zero.wires, .int .i64 Ct.zero.bits, .slice A6 gw6.length c6] 25) = we at *
      generalize w6.heap.size = X6 at *
      obtain ⟨m3, hm3⟩ : ∃ m : Nat, min (n3 : Int) 40 = (m : Int) := ⟨min n3 40, by omega⟩
      have hm4 : m3 ≤ 40 := by omega
      have hm5 : m3 ≤ n3 := by omega
      have hm6 : (m3 : Int) ≤ (c3 : Int) := by omega
      have hq1l : q1.length ≤ 3000 := by rw [← bs_size, hz2]; omega
      go_upto_region 21 with fail
      clear xa hxt hz2 hal1 hz4 hsz
      go_loopg [162, 26] m3 (fun gk s162 s26 wr => ∃ (j : Nat) (r : List UInt8), j + gk = m3 ∧ s162 = .int .i64 j ∧ s26 = .string (bs (q1 ++ r)) ∧ r.length ≤ j ∧ wr = we)
      case atStart => exact ⟨0, [], by omega, rfl, by rw [List.append_nil], by simp, rfl⟩
      case round =>
        obtain ⟨j, r, hj, rfl, rfl, hr, rfl⟩ := hrel
        cases gk with
        | zero =>
          obtain rfl : j = m3 := by omega
          have hrd := sRead_bad (b := false) (k := kk) (g := g) (r := r) HLc.out.right HLc.out.ok Hcl.out HLc.out.toks (by have := congrArg List.length Hlt.out; rw [List.length_map] at this; omega) (by rw [Hq2.out, List.length_append]; omega)
          rw [Hq2.out, Hal.out] at hrd
          have hpa := fun W' h => Parse_calls (q1 ++ r) (by rw [List.length_append]; omega) W' h
          rw [hrd] at hpa
          have HPa := Lib.hid hpa
          clear hpa hrd
          generalize q1 ++ r = q2 at *
          go_wp2_with fail
          refine (HPa.out _ (HT.out.below L7.out.kept).tabs).mono ?_
          rintro e w8 ⟨gv8, gw8, rfl, _, hgs8, k8⟩
          obtain ⟨A8, c8, rfl⟩ := own_form hgs8.row
          have k9 := bt k8 L7.out.kept L7.out.kept.size
          have HT9 := Lib.hid (k9.alloc k9.size (.cells #[.int .i64 Ct.zero.wires, .int .i64 Ct.zero.bits, .slice A8 gw8.length c8] 25))
          clear HPa hgs8 k8 k9
          go_wp2_with fail
          refine (awake_calls _ (HT.out.below HT9.out).tabs).mono ?_
          rintro e w10 ⟨rfl, k10⟩
          have k11 := bt k10 HT9.out HT9.out.size
          go_wp2_with fail
          go_ret
          exact ⟨rfl, k11⟩
        | succ g1 =>
          have hlt : j < m3 := by omega
          have hlti : (j : Int) < (m3 : Int) := by omega
          have hj0 : (0 : Int) ≤ (j : Int) := by omega
          have hB4 := (HB3.out.below L7.out.kept)
          obtain ⟨b9, o9, z, hb9, z0, z1, hz⟩ : ∃ b9 o9 z, a3 = some ⟨b9, o9, none⟩ ∧ 0 ≤ z ∧ z ≤ 255 ∧ wr.cell? ⟨b9, o9 + j, none⟩ = some (.int .u8 z) := by
            rcases hB4 with h | ⟨b9, o9, h1, h2⟩
            · omega
            · obtain ⟨z, h3, h4, h5⟩ := h2 j (by omega)
              exact ⟨b9, o9, z, h1, h3, h4, h5⟩
          subst hb9
          obtain ⟨d, hd1, hd2⟩ : ∃ d : Nat, Int.tmod z 12 = (d : Int) ∧ d < 12 := ⟨(z % 12).toNat, by rw [Int.tmod_eq_emod_of_nonneg z0]; omega, by omega⟩
          obtain ⟨x, hx1, hx2⟩ := beh_at d hd2
          have hd3 : (d : Int) < 12 := by omega
          have hd4 : (0 : Int) ≤ (d : Int) := by omega
          obtain ⟨q3, Hq3⟩ : ∃ q, Hid (q1 ++ r = q) := ⟨q1 ++ r, by show _ = _; rfl⟩
          have hq3l : q3.length ≤ 3040 := by rw [← Hq3.out, List.length_append]; omega
          rw [Hq3.out]
          have hcat : bs q3 ++ bs [x] = bs (q3 ++ [x]) := bs_append _ _
          have hz3 := bs_size q3
          have hzx : (bs [x]).size = 1 := bs_size _
          have hcs : ¬ 9223372036854775807 < (bs q3).size + (bs [x]).size := by omega
          clear hB4
          go_wp2_with fail
          go_roundg g1
          case measure => omega
          case rel => exact ⟨j + 1, r ++ [x], by omega, by go_num, by rw [← List.append_assoc, Hq3.out], by rw [List.length_append]; simp; omega, rfl⟩
    | succ g1 =>
      have hlt : i < ts.length := by omega
      have hlti : (i : Int) < (ts.length : Int) := by omega
      have hi0 : (0 : Int) ≤ (i : Int) := by omega
      have hll : i < l.length := by have := congrArg List.length Hlt.out; rw [List.length_map] at this; omega
      obtain ⟨⟨g, t⟩, hgt⟩ : ∃ x, l[i]? = some x := ⟨l[i], List.getElem?_eq_getElem hll⟩
      obtain ⟨hat, hpre, hall⟩ := laidT_at (tl := tl) hgt
      have htt : ts[i]? = some t := by rw [← Hlt.out, List.getElem?_map, hgt]; rfl
      obtain ⟨ga, hga, xt⟩ := str_at (ws := ts) hL.toks i t htt
      cases hga
      have hal : (atsT l).length = ts.length := by rw [atsT_len, ← Hlt.out, List.length_map]
      obtain ⟨gb, hgb, xa⟩ := ints_at hal hL.ats i _ hat
      cases hgb
      obtain ⟨pre, Hpre, hpl⟩ : ∃ pre, Hid (laidT (l.take (i + 1)) [] = pre) ∧ pre.length = (laidT (l.take i) g).length + t.length := ⟨_, by show _ = _; rfl, by rw [hpre, List.length_append]⟩
      obtain ⟨al, hal2⟩ : ∃ al, (laidT (l.take i) g).length = al := ⟨_, rfl⟩
      have Hps : Hid (s.take pre.length = pre) := by show _ = _; rw [← Hs.out, hall, ← List.append_assoc, ← hpre, Hpre.out, List.take_left]
      have hps : pre.length ≤ s.length := by have := congrArg List.length Hps.out; rw [List.length_take] at this; omega
      rw [hal2] at xa hpl
      have hext : (bs s).extract 0 pre.length = bs pre := by rw [bs_extract_to, Hps.out]
      have hsum : (al : Int) + (t.length : Int) = (pre.length : Int) := by omega
      have hzt := bs_size t
      have hal9 : al ≤ 2000 := by omega
      have htl9 : t.length ≤ 2000 := by omega
      have hpl9 : pre.length ≤ 2000 := by omega
      have Hcut := Lib.hid (sRead_cut (k := i + 1) HLc.out.right HLc.out.ok HLc.out.toks (by omega) (by omega) (by rw [Hpre.out]; omega))
      rw [Hpre.out, Hts.out, Nat.add_sub_cancel, htt] at Hcut
      have HPa := Lib.hid (fun W' h => Parse_calls pre (by omega) W' h)
      have htt2 := Lib.hid htt
      clear hpl hal2 hat hpre hall hgt hal htt hL
      obtain ⟨⟨⟨rw_, rb, rg⟩, rsp, rat, rer⟩, HS⟩ : ∃ r, Hid (sRead pre = r) := ⟨_, rfl⟩
      rw [HS.out] at HPa Hcut
      dsimp only at Hcut
      go_wp2_with fail
      refine (HPa.out _ (HT.out.below HL.out.kept).tabs).mono ?_
      rintro e w5 ⟨gv5, gw5, rfl, hge, hgs5, k5⟩
      obtain ⟨A5, c5, rfl⟩ := own_form hgs5.row
      dsimp only at hge
      have Hge : Hid (gw5.length = rg.length) := by show _ = _; rw [← hge, List.length_map]
      have L5 := Lib.hid (HL.out.below (below1_of k5 (.cells #[.int .i64 rw_, .int .i64 rb, .slice A5 gw5.length c5] 25)))
      have hbx := Blk.new w5 25 #[.int .i64 rw_, .int .i64 rb, .slice A5 gw5.length c5]
      clear HL hge hgs5 k5 HPa HS xa hext hsum
      go_upto_region 9 with fail
      generalize w5.alloc (.cells #[.int .i64 rw_, .int .i64 rb, .slice A5 gw5.length c5] 25) = wb at *
      generalize w5.heap.size = X5 at *
      have y2 := hbx.cell 2
      have x2 := L5.out.box.cell 2
      simp at x2 y2
      clear hbx
      have xt := (str_at (ws := ts) L5.out.toks i t htt2.out)
      obtain ⟨ga', hga', xt⟩ := xt
      cases hga'
      by_cases her : rer = 0
      · subst her
        have h1 := (Hcut.out.2 rfl).1
        have h2 : t = [59] := Option.some.inj (Hcut.out.2 rfl).2
        subst h2
        have hle : gw5.length ≤ gw.length := by have := Hge.out; have := Hcn.out; omega
        have hle2 : decide ((gw.length : Int) < (gw5.length : Int)) = false := decide_eq_false (by omega)
        have xt2 : wb.cell? ⟨ga, i, none⟩ = some (.string ⟨#[59]⟩) := xt
        clear Hcut h1 xt
        go_wp2_with fail
        go_roundg g1
        case measure => omega
        case rel => exact ⟨i + 1, by omega, by go_num, L5.out⟩
      · have hat : rat = (pre.length : Int) := Hcut.out.1 her
        subst hat
        clear Hcut
        by_cases h4 : rer = 4
        · subst h4
          go_wp2_with fail
          go_roundg g1
          case measure => omega
          case rel => exact ⟨i + 1, by omega, by go_num, L5.out⟩
        · have d0 : (rer == 0) = false := by simpa using her
          have d4 : (rer == 4) = false := by simpa using h4
          go_wp2_with fail
          go_roundg g1
          case measure => omega
          case rel => exact ⟨i + 1, by omega, by go_num, L5.out⟩
end Go.Proofs.YtonnegkpjmhomaaGreatDoor
end
