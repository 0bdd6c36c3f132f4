import Derived.Test.YtonnegkpjmhomaaGreatDoorDPlaced11
import Derived.Test.YtonnegkpjmhomaaGreatDoorDPlaced26
import Derived.Test.YtonnegkpjmhomaaGreatDoorDPlaced27
set_option linter.all false
section
set_option linter.all false
namespace Go.Proofs.YtonnegkpjmhomaaGreatDoor
open Go.RowKit
theorem LaidOk.tok : ∀ {l : List (List UInt8 × List UInt8)} {k : Nat}, LaidOk k l → ∀ t ∈ l.map (·.2), ∃ c, Tok c t
  | [], _, _ => by intro t h; cases h
  | (g, x) :: l, k, h => by
    intro t ht
    rw [List.map_cons, List.mem_cons] at ht
    rcases ht with rfl | ht
    · exact h.2.1
    · exact LaidOk.tok h.2.2.2 t ht
theorem toksAll_tok {c : Ct} (b : Bool) (h : chkC c = 0) : ∀ t ∈ toksAll c b, ∃ k, Tok k t := by
  intro t ht
  obtain ⟨h1, h2, h3, h4⟩ := chkC_ok h
  unfold toksAll at ht
  rw [List.mem_append] at ht
  rcases ht with ht | ht
  · unfold toksH at ht
    simp only [List.mem_append, List.mem_cons, List.not_mem_nil, or_false] at ht
    rcases ht with (rfl | rfl) | ht | rfl
    · exact ⟨1, .word 119 [105, 114, 101, 115] (by decide) (by decide)⟩
    · exact ⟨2, itoa_tok (by omega) (by omega)⟩
    · split at ht
      · simp only [List.mem_cons, List.not_mem_nil, or_false] at ht
        rcases ht with rfl | rfl
        · exact ⟨1, .word 98 [105, 116, 115] (by decide) (by decide)⟩
        · exact ⟨2, itoa_tok (by omega) (by omega)⟩
      · cases ht
    · exact ⟨3, tok_semi⟩
  · rw [List.mem_flatMap] at ht
    obtain ⟨g, hg, ht⟩ := ht
    have hl := RestOk.line (h4 g hg) RestOk.nil 0
    refine LaidOk.tok hl t ?_
    rw [List.append_nil, lineL_toks]
    exact ht
theorem toksAll_len {c : Ct} (b : Bool) (h : chkC c = 0) (hg : c.gates.length ≤ 12) : (toksAll c b).length ≤ 113 := by
  obtain ⟨_, _, _, h4⟩ := chkC_ok h
  unfold toksAll
  rw [List.length_append]
  have := (toksH_len c b).1
  have := toks_len_le h4
  omega
theorem placeP_snoc : ∀ (L : List UInt8) (line from_ i : Int) (b : UInt8), placeP line from_ i (L ++ [b]) = if b = 10 then ((placeP line from_ i L).1 + 1, i + L.length + 1) else placeP line from_ i L
  | [], line, from_, i, b => by simp [placeP]
  | x :: L, line, from_, i, b => by
    rw [List.cons_append, placeP, placeP, List.length_cons]
    by_cases hx : x = 10
    · rw [if_pos hx, if_pos hx, placeP_snoc L]
      split
      · refine Prod.ext rfl ?_; show _ = _; omega
      · rfl
    · rw [if_neg hx, if_neg hx, placeP_snoc L]
      split
      · refine Prod.ext rfl ?_; show _ = _; omega
      · rfl
theorem sPlace_in (l : List UInt8) (h : l.length ≤ 60000) (k : Nat) (hk : k ≤ l.length) : sPlace l k = ((placeP 1 0 0 (l.take k)).1, (k : Int) - (placeP 1 0 0 (l.take k)).2 + 1, 0) := by
  unfold sPlace
  rw [if_neg (by omega), if_neg (by omega), Int.toNat_natCast]
theorem sPlace_out (l : List UInt8) (h : l.length ≤ 60000) (k : Int) (hk : k < 0 ∨ (l.length : Int) < k) : sPlace l k = (0, 0, 3) := by
  unfold sPlace
  rw [if_neg (by omega), if_pos hk]
set_option maxRecDepth 100000 in
set_option maxHeartbeats 16000000 in
theorem TextPlaced_ok (a : Option Addr) (n c : Nat) (a2 : Option Addr) (n2 c2 : Nat) (w : World) (hB : BytesAt w a n) (ha : a = none → n = 0) (hc : n ≤ c) (hB2 : BytesAt w a2 n2) (ha2 : a2 = none → n2 = 0) (hc2 : n2 ≤ c2) (ht : TabsA w) :
    Calls Tryz.prog 4 #[.slice a n c, .slice a2 n2 c2] w fun e w' => e = .returned (.bool true) ∧ Below w.heap.size w w' := by
  have HD1 := Lib.hid (drawn_calls a n c w hB ha hc ht)
  have HOf := Lib.hid (fun (w' : World) (hb : Below w.heap.size w w') => store_calls a2 n2 c2 w' (hB2.below hb) ha2 hc2)
  have HT := Lib.hid ht
  clear hB hB2 ht ha ha2 hc hc2
  go_enter Tryz.func4, Tryz.ntmps4
  go_wp2_with fail
  refine HD1.out.mono ?_
  rintro e w1 ⟨W, Bt, gv, gw, b, rfl, hck, hgw, hgs, _, _, k1⟩
  obtain ⟨Ag, cg, rfl⟩ := own_form hgs.row
  clear HD1
  go_upto_region 2 with fail
  have hgs := hgs.below (below1 w1 (.cells #[.int .i64 W, .int .i64 Bt, .slice Ag gw.length cg] 25))
  have hC := Blk.new w1 25 #[.int .i64 W, .int .i64 Bt, .slice Ag gw.length cg]
  have k1 := k1.alloc k1.size (.cells #[.int .i64 W, .int .i64 Bt, .slice Ag gw.length cg] 25)
  generalize w1.alloc (.cells #[.int .i64 W, .int .i64 Bt, .slice Ag gw.length cg] 25) = wa at *
  generalize w1.heap.size = C at *
  have x0 := hC.cell 0
  have x1 := hC.cell 1
  have x2 := hC.cell 2
  simp at x0 x1 x2
  obtain ⟨cc, hcc⟩ : ∃ cc : Ct, Hid ((⟨W, Bt, gw.map (·.1)⟩ : Ct) = cc) := ⟨_, rfl⟩
  have hcr : Hid (chkC cc = 0) := by show _ = _; rw [← hcc.out]; exact hck
  have hcl : Hid (cc.gates.length ≤ 12) := by show _ ≤ _; rw [← hcc.out]; show (gw.map (·.1)).length ≤ 12; rw [List.length_map]; exact hgw
  have HPa : Hid (Calls Tryz.prog 10 #[.agg #[.int .i64 W, .int .i64 Bt, .slice Ag gw.length cg], .bool false] wa fun e w' => ∃ lv ov, e = .returned (.tuple #[lv, ov]) ∧ Pst wa w' lv ov (toksAll cc false) (ofC cc false)) := by
    rw [← hcc.out]
    have h := lawParts_calls ⟨W, Bt, gw.map (·.1)⟩ false (.slice Ag gw.length cg) wa hck (by rw [List.length_map]; exact hgw) hgs.gates
    exact h
  clear hgs hC hck
  go_wp2_with fail
  refine HPa.out.mono ?_
  rintro e w2 ⟨lv, ov, rfl, hp⟩
  have hlo := hp.l
  obtain ⟨Al, cl, rfl⟩ := own_form hlo
  have k2 := bt hp.kept k1 k1.size
  have HL := Lib.hid hlo
  have K2 := Lib.hid k2
  clear hp hlo k2 HPa x0 x1 x2
  go_wp2_with fail
  refine (HOf.out w2 K2.out).mono ?_
  rintro e w3 ⟨b3, rfl, hb3, hs3, k3⟩
  have hls : Hid ((toksAll cc false).length ≤ 113) := by show _ ≤ _; exact toksAll_len false hcr.out hcl.out
  have hLd := lawLaid_calls b3 b3 0 Al cl (toksAll cc false) w3 hs3 (by omega) wa.heap.size (own_below HL.out k3 (Nat.le_refl _)) (toksAll_tok false hcr.out) (by have := hls.out; omega)
  have HLd := Lib.hid hLd
  have k3 := bt k3 K2.out K2.out.size
  have hb3w : w.heap.size ≤ b3 := Nat.le_trans K2.out.size hb3
  clear hLd HOf HL K2 hs3 hb3
  go_wp2_with fail
  refine HLd.out.mono ?_
  rintro e w4 ⟨l, tl, av, rfl, hlt, hlo, hfl, hln, _, _, hg4⟩
  have k4 : Below w.heap.size w w4 := below_grown' k3 hg4 hb3w
  obtain ⟨s, Hs, hsl⟩ : ∃ s, Hid (laidT l tl = s) ∧ s.length ≤ 2000 := ⟨laidT l tl, by show _ = _; rfl, by have := hls.out; omega⟩
  rw [Hs.out]
  have hsz : (bs s).size = s.length := bs_size s
  have K4 := Lib.hid k4
  clear HLd k3 hg4 k4 hln hlt hlo hfl
  have HPl := Lib.hid (fun k W' => Place_calls s (by omega) k W')
  have hsp : (s.length : Int) + 1 ≤ 3000 := by omega
  go_upto_region 6 with fail
  go_loopg [43, 11, 12] (s.length + 1) (fun gk s43 s11 s12 wr => ∃ (k : Nat) (line from_ col : Int), k + gk = s.length + 1 ∧ s43 = .int .i64 k ∧ s11 = .int .i64 line ∧ s12 = .int .i64 col ∧ Hid (placeP 1 0 0 (s.take k) = (line, from_)) ∧ Hid (col = k - from_ + 1) ∧ 1 ≤ line ∧ line ≤ 3000 ∧ 0 ≤ col ∧ col ≤ 3000 ∧ Below w.heap.size w wr)
  case atStart => exact ⟨0, 1, 0, 1, by omega, rfl, rfl, rfl, by show _ = _; rfl, by show _ = _; rfl, by omega, by omega, by omega, by omega, K4.out⟩
  case round =>
    obtain ⟨k, line, from_, col, hk, rfl, rfl, rfl, HP, HC, hl1, hl2, hc1, hc2, hb⟩ := hrel
    have HB := Lib.hid hb
    clear hb K4
    cases gk with
    | zero =>
      obtain rfl : k = s.length + 1 := by omega
      have hp1 := HPl.out ((s.length : Int) + 1)
      have hp2 := HPl.out (-1)
      rw [sPlace_out s (by omega) _ (.inr (by omega))] at hp1
      rw [sPlace_out s (by omega) _ (.inl (by omega))] at hp2
      have HP1 := Lib.hid hp1
      have HP2 := Lib.hid hp2
      clear hp1 hp2 HP HC
      go_wp2_with fail
      refine (HP1.out _).mono ?_
      rintro e w5 ⟨rfl, k5⟩
      have k5 := bt k5 HB.out HB.out.size
      have HK5 := Lib.hid k5
      clear k5
      go_wp2_with fail
      refine (HP2.out _).mono ?_
      rintro e w6 ⟨rfl, k6⟩
      have k6 := bt k6 HK5.out HK5.out.size
      have HK6 := Lib.hid k6
      clear k6
      go_wp2_with fail
      refine (awake_calls _ (HT.out.below HK6.out).tabs).mono ?_
      rintro e w7 ⟨rfl, k7⟩
      have k7 := bt k7 HK6.out HK6.out.size
      go_wp2_with fail
      go_ret
      exact ⟨rfl, k7⟩
    | succ g1 =>
      have hks : k ≤ s.length := by omega
      have hlti : (k : Int) < (s.length : Int) + 1 := by omega
      have hk0 : (0 : Int) ≤ (k : Int) := by omega
      have hp := HPl.out (k : Int)
      rw [sPlace_in s (by omega) k hks, HP.out] at hp
      dsimp only at hp
      rw [← HC.out] at hp
      have HPP := Lib.hid hp
      clear hp
      go_wp2_with fail
      refine (HPP.out _).mono ?_
      rintro e w5 ⟨rfl, k5⟩
      have k5 := bt k5 HB.out HB.out.size
      have HK5 := Lib.hid k5
      clear k5 HPP HB
      by_cases hlt : k < s.length
      · have hd : decide ((k : Int) < (s.length : Int)) = true := decide_eq_true (by omega)
        have hlt2 : (k : Int) < (s.length : Int) := by omega
        have hlt3 : k < (bs s).size := by omega
        obtain ⟨x, Hx, hgx⟩ : ∃ x, Hid (s.take (k + 1) = s.take k ++ [x]) ∧ ∀ h, (bs s)[k]'h = x := ⟨s[k], by show _ = _; exact List.take_succ_eq_append_getElem hlt, fun h => bs_get s k h⟩
        by_cases hx : x = 10
        · subst hx
          have HPn : Hid (placeP 1 0 0 (s.take (k + 1)) = (line + 1, (k : Int) + 1)) := by
            show _ = _
            rw [Hx.out, placeP_snoc, if_pos rfl, HP.out, List.length_take, Nat.min_eq_left hks]
            simp
          have hl3 : line + 1 ≤ 3000 := by
            have := placeP_line (s.take (k + 1)) 1 0 0
            rw [HPn.out, List.length_take] at this
            dsimp only at this
            omega
          clear HP HC
          go_wp2_with fail
          go_roundg g1
          case measure => omega
          case rel => exact ⟨k + 1, line + 1, (k : Int) + 1, 1, by omega, by go_num, rfl, rfl, HPn, by show (1 : Int) = ((k + 1 : Nat) : Int) - ((k : Int) + 1) + 1; omega, by omega, hl3, by omega, by omega, HK5.out⟩
        · have hx2 : ((x.toNat : Int) == 10) = false := by
            simp only [beq_eq_false_iff_ne]
            intro h
            exact hx (UInt8.toNat_inj.1 (by show x.toNat = 10; omega))
          have HPn : Hid (placeP 1 0 0 (s.take (k + 1)) = (line, from_)) := by
            show _ = _
            rw [Hx.out, placeP_snoc, if_neg hx, HP.out]
          have hcn : col + 1 ≤ 3000 := by
            have := placeP_from (s.take k) 1 0 0 (by omega)
            rw [HP.out] at this
            have := HC.out
            dsimp only at *
            omega
          have HCn : Hid (col + 1 = ((k + 1 : Nat) : Int) - from_ + 1) := by show _ = _; have := HC.out; omega
          clear HP HC
          go_wp2_with fail
          go_roundg g1
          case measure => omega
          case rel => exact ⟨k + 1, line, from_, col + 1, by omega, by go_num, rfl, rfl, HPn, HCn, by omega, by omega, by omega, hcn, HK5.out⟩
      · have hd : decide ((k : Int) < (s.length : Int)) = false := decide_eq_false (by omega)
        have HPn : Hid (placeP 1 0 0 (s.take (k + 1)) = (line, from_)) := by
          show _ = _
          rw [List.take_of_length_le (by omega), ← List.take_of_length_le (l := s) (i := k) (by omega)]
          exact HP.out
        have hcn : col + 1 ≤ 3000 := by
          have := placeP_from (s.take k) 1 0 0 (by omega)
          rw [HP.out] at this
          have := HC.out
          dsimp only at *
          omega
        have HCn : Hid (col + 1 = ((k + 1 : Nat) : Int) - from_ + 1) := by show _ = _; have := HC.out; omega
        clear HP HC
        go_wp2_with fail
        go_roundg g1
        case measure => omega
        case rel => exact ⟨k + 1, line, from_, col + 1, by omega, by go_num, rfl, rfl, HPn, HCn, by omega, by omega, by omega, hcn, HK5.out⟩
end Go.Proofs.YtonnegkpjmhomaaGreatDoor
end
