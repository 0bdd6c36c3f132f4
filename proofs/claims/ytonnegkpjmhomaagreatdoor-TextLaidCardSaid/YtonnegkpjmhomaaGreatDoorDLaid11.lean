import Derived.Lib.OthersKept
import Derived.Lib.BufferWrite
import Derived.Lib.SlBuf
import Derived.WalkMore
import Derived.Test.YtonnegkpjmhomaaGreatDoorDLaid10
set_option linter.all false
section
namespace Go.Proofs.YtonnegkpjmhomaaGreatDoor
open Go.RowKit
theorem decode_span (s : ByteArray) (pos : Nat) (h : pos < s.size) (ha : 128 ≤ (s[pos]'h).toNat) : ∀ j, j < (Utf8.decode s pos).2 → pos + j < s.size ∧ 128 ≤ (s.get! (pos + j)).toNat := by
  have hn : ¬ (s[pos]'h).toNat < 128 := by omega
  have h0 : pos + 0 < s.size ∧ 128 ≤ (s.get! (pos + 0)).toNat := ⟨h, by rw [get_at s pos h]; exact ha⟩
  intro j hj
  simp only [Utf8.decode, get_at s pos h, hn, if_false, Bool.and_eq_true, decide_eq_true_eq, beq_iff_eq] at hj
  rcases j with _ | _ | _ | _ | j
  · exact h0
  · show pos + 1 < s.size ∧ 128 ≤ (s.get! (pos + 1)).toNat
    split at hj
    · rename_i c; exact ⟨c.2.1, by have := c.2.2; omega⟩
    · split at hj
      · rename_i c; exact ⟨c.1.2.1, by have := c.1.2.2; omega⟩
      · split at hj
        · rename_i c; exact ⟨c.1.1.2.1, by have := c.1.1.2.2; omega⟩
        · simp at hj
  · show pos + 2 < s.size ∧ 128 ≤ (s.get! (pos + 2)).toNat
    split at hj
    · split at hj <;> simp at hj
    · split at hj
      · rename_i c; exact ⟨c.2.1, by have := c.2.2; omega⟩
      · split at hj
        · rename_i c; exact ⟨c.1.2.1, by have := c.1.2.2; omega⟩
        · simp at hj
  · show pos + 3 < s.size ∧ 128 ≤ (s.get! (pos + 3)).toNat
    split at hj
    · split at hj <;> simp at hj
    · split at hj
      · split at hj <;> simp at hj
      · split at hj
        · rename_i c; exact ⟨c.2.1, by have := c.2.2; omega⟩
        · simp at hj
  · exfalso
    split at hj
    · split at hj <;> simp at hj <;> omega
    · split at hj
      · split at hj <;> simp at hj <;> omega
      · split at hj
        · split at hj <;> simp at hj <;> omega
        · simp at hj
theorem placeP_skip (line from_ : Int) (L : List UInt8) : ∀ (n pos : Nat), (∀ j, j < n → ∀ b, L[pos + j]? = some b → b ≠ 10) → placeP line from_ pos (L.drop pos) = placeP line from_ ((pos + n : Nat) : Int) (L.drop (pos + n))
  | 0, pos, _ => by simp
  | n + 1, pos, h => by
    have ih := placeP_skip line from_ L n (pos + 1) (fun j hj b hb => h (j + 1) (by omega) b (by rw [show pos + (j + 1) = pos + 1 + j by omega]; exact hb))
    rw [show pos + (n + 1) = pos + 1 + n by omega, ← ih]
    by_cases hp : pos < L.length
    · have hb : L[pos]? = some L[pos] := List.getElem?_eq_getElem hp
      have hne := h 0 (by omega) L[pos] (by simp [hp])
      rw [List.drop_eq_getElem_cons hp, placeP, if_neg hne]
      rfl
    · rw [List.drop_of_length_le (by omega), List.drop_of_length_le (by omega)]
      rfl
theorem infoU8 : (Tryz.prog.info? 5).map (fun i => (i.zero, i.size, i.bytes)) = some (some (.int .u8 0), 1, 1) := by kernel_rfl
theorem placeP_from : ∀ (L : List UInt8) (line from_ i : Int), from_ ≤ i → from_ ≤ (placeP line from_ i L).2 ∧ (placeP line from_ i L).2 ≤ i + L.length
  | [], line, from_, i, h => ⟨Int.le_refl _, by simp [placeP]; omega⟩
  | b :: L, line, from_, i, h => by
    unfold placeP
    rw [List.length_cons]
    split
    · have := placeP_from L (line + 1) (i + 1) (i + 1) (Int.le_refl _); omega
    · have := placeP_from L line from_ (i + 1) (by omega); omega
theorem placeP_line : ∀ (L : List UInt8) (line from_ i : Int), line ≤ (placeP line from_ i L).1 ∧ (placeP line from_ i L).1 ≤ line + L.length
  | [], line, from_, i => by simp [placeP]
  | b :: L, line, from_, i => by
    unfold placeP
    rw [List.length_cons]
    split
    · have := placeP_line L (line + 1) (i + 1) (i + 1); omega
    · have := placeP_line L line from_ (i + 1); omega
set_option maxRecDepth 100000 in
set_option maxHeartbeats 4000000 in
theorem Place_calls (l : List UInt8) (hl : l.length ≤ 1000000) (k : Int) (w : World) :
    Calls Tryz.prog 15 #[.string (bs l), .int .i64 k] w fun e w' => e = .returned (.tuple #[.int .i64 (sPlace l k).1, .int .i64 (sPlace l k).2.1, .int .i64 (sPlace l k).2.2]) ∧ Below w.heap.size w w' := by
  have hsz : (bs l).size = l.length := bs_size l
  have hget : ∀ i (h : i < (bs l).size), (bs l)[i]'h = l[i]'(by omega) := fun i h => bs_get l i h
  by_cases hlong : 65536 < l.length
  · have Hs : Hid (sPlace l k = (0, 0, 11)) := by show _ = _; unfold sPlace; rw [if_pos hlong]
    rw [Hs.out]
    clear hget
    go_enter Tryz.func15, Tryz.ntmps15
    go_wp2_with fail
    go_step3
    go_wp2_with fail
    unfold Exit.noGoto
    dsimp only
    go_ret3
    exact ⟨rfl, Below.refl _ _⟩
  · by_cases hk : k < 0 ∨ (l.length : Int) < k
    · have Hs : Hid (sPlace l k = (0, 0, 3)) := by show _ = _; unfold sPlace; rw [if_neg hlong, if_pos hk]
      rw [Hs.out]
      clear hget
      go_enter Tryz.func15, Tryz.ntmps15
      go_wp2_with fail
      go_step3
      rcases hk with hk | hk
      · have hkd : decide (k < 0) = true := decide_eq_true hk
        go_wp2_with fail
        unfold Exit.noGoto
        dsimp only
        go_ret3
        exact ⟨rfl, Below.refl _ _⟩
      · have hkd : decide (k < 0) = false := decide_eq_false (by omega)
        go_wp2_with fail
        unfold Exit.noGoto
        dsimp only
        go_ret3
        exact ⟨rfl, Below.refl _ _⟩
    · obtain ⟨at_, rfl⟩ : ∃ i : Nat, k = i := ⟨k.toNat, by omega⟩
      have hal : at_ ≤ l.length := by omega
      have Hs : Hid (sPlace l at_ = ((placeP 1 0 0 (l.take at_)).1, at_ - (placeP 1 0 0 (l.take at_)).2 + 1, 0)) := by show _ = _; unfold sPlace; rw [if_neg hlong, if_neg hk, Int.toNat_natCast]
      rw [Hs.out]
      have hLl : (l.take at_).length = at_ := by rw [List.length_take]; omega
      have hp1 := placeP_from (l.take at_) 1 0 0 (Int.le_refl _)
      have hp2 := placeP_line (l.take at_) 1 0 0
      rw [hLl] at hp1 hp2
      have hLg : ∀ i, i < at_ → ∀ h, (l.take at_)[i]? = some (l[i]'h) := fun i hi h => by rw [List.getElem?_take, if_pos hi, List.getElem?_eq_getElem h]
      generalize hL : l.take at_ = L at *
      obtain ⟨⟨pl, pf⟩, HPl⟩ : ∃ r, Hid (placeP 1 0 0 L = r) := ⟨_, rfl⟩
      rw [HPl.out] at hp1 hp2 ⊢
      dsimp only at hp1 hp2 ⊢
      have hkd : decide ((at_ : Int) < 0) = false := decide_eq_false (by omega)
      have hk1 : ¬ (at_ : Int) < 0 := by omega
      have hk2 : ¬ (l.length : Int) < (at_ : Int) := by omega
      have hk3 : decide (l.length < at_) = false := decide_eq_false (by omega)
      clear hk Hs
      have HLg := Lib.hid hLg
      have Hget := Lib.hid hget
      have HL := Lib.hid hL
      clear hLg hget hL
      go_enter Tryz.func15, Tryz.ntmps15
      go_wp2_with fail
      go_step3
      go_wp2_with fail
      go_step3
      go_upto_block 1 with fail
      go_cut [7, 8] from 27 to 39 (fun s7 s8 wx => s7 = .int .i64 pl ∧ s8 = .int .i64 pf ∧ Below w.heap.size w wx)
      case first =>
        go_wp2_with fail
        go_loopw [7, 8] (fun s7 s8 wr => ∃ (pos : Nat) (line from_ : Int), s7 = .int .i64 line ∧ s8 = .int .i64 from_ ∧ pos ≤ l.length ∧ wr.heap[w.heap.size]? = some (.stringIter (bs l) pos) ∧ placeP line from_ pos (L.drop pos) = (pl, pf) ∧ Below w.heap.size w wr ∧ 1 ≤ line ∧ line ≤ pos + 1 ∧ 0 ≤ from_ ∧ from_ ≤ pos)
          (fun _ _ wr => l.length - wr.iterPos w.heap.size)
        case atStart => exact ⟨0, 1, 0, rfl, rfl, Nat.zero_le _, World.iter_heap w (bs l) 0, HPl.out, (Below.refl _ w).alloc (Nat.le_refl _) _, by omega, by omega, by omega, by omega⟩
        case round =>
          obtain ⟨pos, line, from_, rfl, rfl, hpl, hit, hpp, hbw, q1, q2, q3, q4⟩ := hrel
          by_cases hp : pos < l.length
          · have hp' : pos < (bs l).size := by omega
            have hbw2 := Lib.below_iterAt hbw (k := w.heap.size) (Nat.le_refl _) (bs l) (pos + (Utf8.decode (bs l) pos).2)
            have hit2 := Lib.iterAt_heap wr w.heap.size (bs l) pos (pos + (Utf8.decode (bs l) pos).2) hit
            have hnx : ∀ ty, (Instr.next (.pointer (some ⟨w.heap.size, 0, none⟩)) true ty).run Tryz.prog wr = _ := fun ty => Lib.run_next_any_at wr w.heap.size (bs l) pos ty hit hp'
            by_cases hpa : pos < at_
            · have hpa1 : ¬ (at_ : Int) ≤ (pos : Int) := by omega
              have hLp := HLg.out pos hpa hp
              have hdc : L.drop pos = l[pos] :: L.drop (pos + 1) := by
                have hpL : pos < L.length := by omega
                rw [List.drop_eq_getElem_cons hpL]
                congr 1
                have h2 : L[pos]? = some L[pos] := List.getElem?_eq_getElem hpL
                rw [hLp] at h2; injection h2 with h2; exact h2.symm
              by_cases ha : ((bs l)[pos]'hp').toNat < 128
              · rw [decode_ascii (bs l) pos hp' ha, Hget.out] at hnx hit2 hbw2
                by_cases h10 : l[pos] = 10
                · have hr : ((l[pos]).toNat : Int) = 10 := by rw [h10]; rfl
                  rw [hdc, placeP, if_pos h10] at hpp
                  have Hpp := Lib.hid hpp
                  have hn10 : (((l[pos]).toNat : Int) == 10) = true := by rw [hr]; rfl
                  clear hpp hdc hLp h10 hr
                  generalize ((l[pos]).toNat : Nat) = r at *
                  go_wp2_with fail
                  refine ⟨⟨pos + 1, line + 1, (pos : Int) + 1, rfl, rfl, by omega, hit2, by rw [Int.natCast_add]; exact Hpp.out, hbw2, by omega, by omega, by omega, by omega⟩, ?_⟩
                  simp only [World.iterPos, hit2, hit]
                  omega
                · have hn10 : (((l[pos]).toNat : Int) == 10) = false := by
                    rw [beq_eq_false_iff_ne]
                    intro h
                    apply h10
                    apply UInt8.toNat.inj
                    have : (l[pos]).toNat = 10 := by omega
                    rw [this]; rfl
                  rw [hdc, placeP, if_neg h10] at hpp
                  have Hpp := Lib.hid hpp
                  clear hpp hdc hLp h10
                  generalize ((l[pos]).toNat : Nat) = r at *
                  go_wp2_with fail
                  refine ⟨⟨pos + 1, line, from_, rfl, rfl, by omega, hit2, by rw [Int.natCast_add]; exact Hpp.out, hbw2, by omega, by omega, by omega, by omega⟩, ?_⟩
                  simp only [World.iterPos, hit2, hit]
                  omega
              · have hd := decode_high (bs l) pos hp' (by omega)
                have hds := decode_span (bs l) pos hp' (by omega)
                have hn10 : ((((Utf8.decode (bs l) pos).1 : Nat) : Int) == 10) = false := by rw [beq_eq_false_iff_ne]; omega
                have hle : pos + (Utf8.decode (bs l) pos).2 ≤ l.length := by
                  have := (hds ((Utf8.decode (bs l) pos).2 - 1) (by omega)).1
                  omega
                have hpp2 := (placeP_skip line from_ L (Utf8.decode (bs l) pos).2 pos (fun j hj b hb => by
                  obtain ⟨h1, h2⟩ := hds j hj
                  have hb2 : b = l[pos + j]'(by omega) := by
                    have hjL : pos + j < L.length := by
                      rcases Nat.lt_or_ge (pos + j) L.length with h | h
                      · exact h
                      · rw [List.getElem?_eq_none h] at hb; cases hb
                    have h3 := HLg.out (pos + j) (by omega) (by omega)
                    rw [hb] at h3; injection h3
                  have h4 : (bs l).get! (pos + j) = l[pos + j]'(by omega) := by
                    rw [show (bs l).get! (pos + j) = (bs l)[pos + j]'h1 from by have := get_at (bs l) (pos + j) h1; exact this, Hget.out]
                  rw [h4] at h2
                  rintro rfl
                  rw [← hb2] at h2
                  exact absurd h2 (by decide))).symm.trans hpp
                have Hpp := Lib.hid hpp2
                clear hpp hpp2 hdc hLp hds ha
                generalize Utf8.decode (bs l) pos = dd at *
                obtain ⟨r, wd⟩ := dd
                dsimp only at *
                go_wp2_with fail
                refine ⟨⟨pos + wd, line, from_, rfl, rfl, hle, hit2, Hpp.out, hbw2, by omega, by omega, by omega, by omega⟩, ?_⟩
                simp only [World.iterPos, hit2, hit]
                omega
            · have hpa1 : (at_ : Int) ≤ (pos : Int) := by omega
              rw [List.drop_of_length_le (by omega)] at hpp
              injection hpp with e1 e2
              subst e1 e2
              generalize Utf8.decode (bs l) pos = dd at *
              obtain ⟨r, wd⟩ := dd
              go_wp2_with fail
              go_meet
              exact ⟨rfl, rfl, hbw2⟩
          · have hnx : ∀ ty, (Instr.next (.pointer (some ⟨w.heap.size, 0, none⟩)) true ty).run Tryz.prog wr = _ := fun ty => Lib.run_next_end_at wr w.heap.size (bs l) pos ty hit (by omega)
            rw [List.drop_of_length_le (by omega)] at hpp
            injection hpp with e1 e2
            subst e1 e2
            go_wp2_with fail
            go_meet
            exact ⟨rfl, rfl, hbw⟩
      case rest =>
        obtain ⟨rfl, rfl, hb⟩ := hcut
        obtain ⟨pn, rfl⟩ : ∃ n : Nat, pf = n := ⟨pf.toNat, by omega⟩
        have hpn : pn ≤ at_ := by omega
        obtain ⟨i0, hinf, hz0, hz1, hz2⟩ := info_parts infoU8
        have hto : ((at_ : Int) - (pn : Int)).toNat = at_ - pn := by omega
        have hmk : ∀ W, (Instr.makeSlice 22 (.int .i64 ((at_ : Int) - pn)) (.int .i64 ((at_ : Int) - pn))).run Tryz.prog W = .ok (.slice (some ⟨W.heap.size, 0, none⟩) (at_ - pn) (at_ - pn)) (W.alloc (.cells (madeCells (Value.int .u8 0).cells (at_ - pn)) 5)) := fun W => by
          have h := run_makeSlice (P := Tryz.prog) W 22 5 i0 (.int .u8 0) Tryz.underlying22 hinf hz0 .i64 .i64 ((at_ : Int) - pn) ((at_ : Int) - pn) (by omega) (Int.le_refl _) (by rw [hz1, hto]; omega) (by rw [hz2]; omega) (by omega)
          rw [hto, hz1, Nat.mul_one] at h
          exact h
        have hex : (bs l).extract pn at_ = bs ((l.drop pn).take (at_ - pn)) := bs_extract l pn at_
        have hexl : (bs ((l.drop pn).take (at_ - pn))).size = at_ - pn := by rw [bs_size, List.length_take, List.length_drop]; omega
        have hr := fun ty => Lib.run_copy_row_string (P := Tryz.prog) (wc.alloc (.cells (madeCells (Value.int .u8 0).cells (at_ - pn)) 5)) 22 9 ty 5 wc.heap.size 0 (at_ - pn) (at_ - pn) (bs ((l.drop pn).take (at_ - pn))) (madeCells (Value.int .u8 0).cells (at_ - pn)) 5 Tryz.underlying22 (by kernel_rfl) (heap_alloc_new wc _) (by omega) (by rw [hexl, size_madeCells]; omega)
        have HR := Lib.hid hr
        have c1 : (pn : Int) ≤ (at_ : Int) := by omega
        have c2 : (at_ : Int) ≤ (l.length : Int) := by omega
        have c3 : (0 : Int) ≤ (pn : Int) := by omega
        have c4 : (0 : Int) ≤ (at_ : Int) := by omega
        have c5 : ¬ ((at_ : Int) - (pn : Int) < 0) := by omega
        clear hr hp1 hLl HL HLg
        go_wp2_with (refine Lib.wpList_copy_run _ rfl (.tmp 44) (.tmp 48) 22 9 rfl _ _ rfl rfl (HR.out _) ?_)
        go_ret3
        have e : ((at_ - pn : Nat) : Int) = (at_ : Int) - (pn : Int) := by omega
        exact ⟨by rw [← e]; rfl, below_row (hb.alloc hb.size _) hb.size _⟩
end Go.Proofs.YtonnegkpjmhomaaGreatDoor
end
section
set_option linter.all false
namespace Go.Proofs.YtonnegkpjmhomaaGreatDoor
open Go.RowKit
def bellC : Ct := ⟨2, 1, [⟨4, [0], 0, 0⟩, ⟨9, [0, 1], 0, 0⟩, ⟨13, [1], 0, 0⟩, ⟨1, [0], 0, 1⟩]⟩
set_option maxRecDepth 100000
theorem aw1 : (sRead [119, 105, 114, 101, 115, 32, 50, 32, 98, 105, 116, 115, 32, 49, 59, 32, 104, 32, 48, 59, 32, 99, 120, 32, 48, 32, 49, 59, 32, 109, 101, 97, 115, 117, 114, 101, 32, 49, 32, 48, 59, 32, 105, 102, 32, 48, 58, 32, 120, 32, 48, 59]).1 = bellC ∧ (sRead [119, 105, 114, 101, 115, 32, 50, 32, 98, 105, 116, 115, 32, 49, 59, 32, 104, 32, 48, 59, 32, 99, 120, 32, 48, 32, 49, 59, 32, 109, 101, 97, 115, 117, 114, 101, 32, 49, 32, 48, 59, 32, 105, 102, 32, 48, 58, 32, 120, 32, 48, 59]).2.2 = (0, 0) := by decide
theorem aw2 : (sRead [119, 105, 114, 101, 115, 32, 50, 59, 104, 32, 48, 59, 99, 120, 32, 48]).2.2 = (16, 4) := by decide
theorem aw3 : (sRead [119, 105, 114, 101, 115, 32, 50, 59, 32, 104, 104, 32, 48, 59]).2.2 = (9, 4) := by decide
theorem aw5 : (sRead [119, 105, 114, 101, 115, 32, 49, 59, 32, 99, 120, 32, 48, 32, 49, 59]).2.2 = (16, 1) := by decide
theorem aw4 : (sTokens [119, 105, 114, 101, 115, 32, 48, 50, 59]).2 = (7, 4) := by decide
theorem aw6 : sPut [119, 105, 114, 101, 115, 32, 49, 59, 10, 104, 32, 48, 59, 32, 35, 32, 115, 111, 10, 116, 32, 48, 59] 0 [120, 32, 48, 59, 32, 122, 32, 48, 59] = ([119, 105, 114, 101, 115, 32, 49, 59, 10, 120, 32, 48, 59, 32, 122, 32, 48, 59, 32, 35, 32, 115, 111, 10, 116, 32, 48, 59], 0) := by decide
theorem aw7 : sPlace [97, 10, 98] 2 = (2, 1, 0) := by decide
theorem itoa_small (n : Nat) (h : n < 10) : itoa (n : Int) = [UInt8.ofNat (48 + n)] := by
  unfold itoa Lib.itoa; rw [if_neg (by omega), Int.toNat_natCast, Lib.decDigits_one h]
theorem itoa_0 : itoa 0 = [48] := itoa_small 0 (by omega)
theorem itoa_1 : itoa 1 = [49] := itoa_small 1 (by omega)
theorem itoa_2 : itoa 2 = [50] := itoa_small 2 (by omega)
theorem aw8 : sPrint bellC = ([119, 105, 114, 101, 115, 32, 50, 32, 98, 105, 116, 115, 32, 49, 59, 10, 104, 32, 48, 59, 10, 99, 120, 32, 48, 32, 49, 59, 10, 109, 101, 97, 115, 117, 114, 101, 32, 49, 32, 48, 59, 10, 105, 102, 32, 48, 58, 32, 120, 32, 48, 59, 10], 0) := by
  have h : chkC bellC = 0 := by decide
  unfold sPrint
  rw [if_pos h]
  simp [printP, bellC, shownP, itoa_0, itoa_1, itoa_2, wordK, wordTab]
theorem parse_known (l : List UInt8) (hl : l.length ≤ 1000000) {at_ er : Int} (h : (sRead l).2.2 = (at_, er)) (W : World) (ht : Tabs W) :
    Calls Tryz.prog 13 #[.string (bs l)] W fun e w' => ∃ wi bi A n c, e = .returned (.tuple #[.agg #[.int .i64 wi, .int .i64 bi, .slice A n c], .int .i64 at_, .int .i64 er]) ∧ Below W.heap.size W w' := by
  refine (Parse_calls l hl W ht).mono ?_
  rintro e w' ⟨gv, gw, rfl, _, hG, hb⟩
  obtain ⟨A, c, rfl⟩ := own_form hG.row
  have h1 : (sRead l).2.2.1 = at_ := by rw [h]
  have h2 : (sRead l).2.2.2 = er := by rw [h]
  rw [h1, h2]
  exact ⟨_, _, A, gw.length, c, rfl, hb⟩
theorem bell_known (W : World) (ht : Tabs W) : Calls Tryz.prog 13 #[.string (bs [119, 105, 114, 101, 115, 32, 50, 32, 98, 105, 116, 115, 32, 49, 59, 32, 104, 32, 48, 59, 32, 99, 120, 32, 48, 32, 49, 59, 32, 109, 101, 97, 115, 117, 114, 101, 32, 49, 32, 48, 59, 32, 105, 102, 32, 48, 58, 32, 120, 32, 48, 59])] W fun e w' => ∃ A c, e = .returned (.tuple #[.agg #[.int .i64 2, .int .i64 1, .slice A 4 c], .int .i64 0, .int .i64 0]) ∧ GatesAt w' w'.heap.size (.slice A 4 c) bellC.gates ∧ Below W.heap.size W w' := by
  refine (Parse_calls [119, 105, 114, 101, 115, 32, 50, 32, 98, 105, 116, 115, 32, 49, 59, 32, 104, 32, 48, 59, 32, 99, 120, 32, 48, 32, 49, 59, 32, 109, 101, 97, 115, 117, 114, 101, 32, 49, 32, 48, 59, 32, 105, 102, 32, 48, 58, 32, 120, 32, 48, 59] (by decide) W ht).mono ?_
  rintro e w' ⟨gv, gw, rfl, hg, hG, hb⟩
  obtain ⟨A, c, rfl⟩ := own_form hG.row
  have hgs := hG.gates
  rw [hg, aw1.1] at hgs
  have hl : gw.length = 4 := by have := congrArg List.length hg; rw [aw1.1, List.length_map] at this; exact this
  rw [hl] at hgs ⊢
  rw [aw1.1, aw1.2]
  exact ⟨A, c, rfl, hgs, hb⟩
theorem print_known (A : Option Addr) (c : Nat) (W : World) (hG : GatesAt W W.heap.size (.slice A 4 c) bellC.gates) (ht : Tabs W) : Calls Tryz.prog 16 #[.agg #[.int .i64 2, .int .i64 1, .slice A 4 c]] W fun e w' => e = .returned (.tuple #[.string (bs [119, 105, 114, 101, 115, 32, 50, 32, 98, 105, 116, 115, 32, 49, 59, 10, 104, 32, 48, 59, 10, 99, 120, 32, 48, 32, 49, 59, 10, 109, 101, 97, 115, 117, 114, 101, 32, 49, 32, 48, 59, 10, 105, 102, 32, 48, 58, 32, 120, 32, 48, 59, 10]), .int .i64 0]) ∧ Below W.heap.size W w' := by
  have h := Print_calls 2 1 (.slice A 4 c) bellC.gates _ W (Nat.le_refl _) hG (by decide) ht
  have e : sPrint ⟨2, 1, bellC.gates⟩ = ([119, 105, 114, 101, 115, 32, 50, 32, 98, 105, 116, 115, 32, 49, 59, 10, 104, 32, 48, 59, 10, 99, 120, 32, 48, 32, 49, 59, 10, 109, 101, 97, 115, 117, 114, 101, 32, 49, 32, 48, 59, 10, 105, 102, 32, 48, 58, 32, 120, 32, 48, 59, 10], 0) := aw8
  rw [e] at h
  exact h
theorem tokens_known (W : World) : Calls Tryz.prog 18 #[.string (bs [119, 105, 114, 101, 115, 32, 48, 50, 59])] W fun e w' => ∃ A n c, e = .returned (.tuple #[.slice A n c, .int .i64 7, .int .i64 4]) ∧ Below W.heap.size W w' := by
  refine (Tokens_calls [119, 105, 114, 101, 115, 32, 48, 50, 59] (by decide) W).mono ?_
  rintro e w' ⟨v, ps, at_, er, rfl, hs, ho, hb⟩
  obtain ⟨A, c, rfl⟩ := own_form ho
  have h := aw4
  rw [hs] at h
  injection h with h1 h2
  subst h1 h2
  exact ⟨A, ps.length, c, rfl, hb⟩
theorem put_known (W : World) (ht : Tabs W) : Calls Tryz.prog 35 #[.string (bs [119, 105, 114, 101, 115, 32, 49, 59, 10, 104, 32, 48, 59, 32, 35, 32, 115, 111, 10, 116, 32, 48, 59]), .int .i64 0, .string (bs [120, 32, 48, 59, 32, 122, 32, 48, 59])] W fun e w' => e = .returned (.tuple #[.string (bs [119, 105, 114, 101, 115, 32, 49, 59, 10, 120, 32, 48, 59, 32, 122, 32, 48, 59, 32, 35, 32, 115, 111, 10, 116, 32, 48, 59]), .int .i64 0]) ∧ Below W.heap.size W w' := by
  have h := Put_calls [119, 105, 114, 101, 115, 32, 49, 59, 10, 104, 32, 48, 59, 32, 35, 32, 115, 111, 10, 116, 32, 48, 59] [120, 32, 48, 59, 32, 122, 32, 48, 59] (by decide) (by decide) 0 W ht
  rw [aw6] at h
  exact h
theorem place_known (W : World) : Calls Tryz.prog 15 #[.string (bs [97, 10, 98]), .int .i64 2] W fun e w' => e = .returned (.tuple #[.int .i64 2, .int .i64 1, .int .i64 0]) ∧ Below W.heap.size W w' := by
  have h := Place_calls [97, 10, 98] (by decide) 2 W
  rw [aw7] at h
  exact h
set_option maxHeartbeats 8000000 in
theorem awake_calls (w : World) (ht : Tabs w) : Calls Tryz.prog 14 #[] w fun e w' => e = .returned (.bool true) ∧ Below w.heap.size w w' := by
  have HT := Lib.hid ht
  have H1 := Lib.hid bell_known
  have H2 := Lib.hid print_known
  have H3 := Lib.hid (parse_known [119, 105, 114, 101, 115, 32, 50, 59, 104, 32, 48, 59, 99, 120, 32, 48] (by decide) aw2)
  have H4 := Lib.hid (parse_known [119, 105, 114, 101, 115, 32, 50, 59, 32, 104, 104, 32, 48, 59] (by decide) aw3)
  have H5 := Lib.hid tokens_known
  have H6 := Lib.hid (parse_known [119, 105, 114, 101, 115, 32, 49, 59, 32, 99, 120, 32, 48, 32, 49, 59] (by decide) aw5)
  have H7 := Lib.hid put_known
  have H8 := Lib.hid place_known
  have hq1 : (bs [119, 105, 114, 101, 115, 32, 50, 32, 98, 105, 116, 115, 32, 49, 59, 10, 104, 32, 48, 59, 10, 99, 120, 32, 48, 32, 49, 59, 10, 109, 101, 97, 115, 117, 114, 101, 32, 49, 32, 48, 59, 10, 105, 102, 32, 48, 58, 32, 120, 32, 48, 59, 10]).toList = [119, 105, 114, 101, 115, 32, 50, 32, 98, 105, 116, 115, 32, 49, 59, 10, 104, 32, 48, 59, 10, 99, 120, 32, 48, 32, 49, 59, 10, 109, 101, 97, 115, 117, 114, 101, 32, 49, 32, 48, 59, 10, 105, 102, 32, 48, 58, 32, 120, 32, 48, 59, 10] := by rw [ByteArray.toList_eq, bs_list]
  have hq2 : (bs [119, 105, 114, 101, 115, 32, 49, 59, 10, 120, 32, 48, 59, 32, 122, 32, 48, 59, 32, 35, 32, 115, 111, 10, 116, 32, 48, 59]).toList = [119, 105, 114, 101, 115, 32, 49, 59, 10, 120, 32, 48, 59, 32, 122, 32, 48, 59, 32, 35, 32, 115, 111, 10, 116, 32, 48, 59] := by rw [ByteArray.toList_eq, bs_list]
  clear ht
  go_enter Tryz.func14, Tryz.ntmps14
  go_wp2_with fail
  refine (H1.out _ HT.out).mono ?_
  rintro e w1 ⟨A1, c1, rfl, hG, hb⟩
  have hG2 := (hG.below (below1 w1 (.cells #[.int .i64 2, .int .i64 1, .slice A1 4 c1] 25))).more (B' := (w1.alloc (.cells #[.int .i64 2, .int .i64 1, .slice A1 4 c1] 25)).heap.size) (by simp)
  have hW := hb.alloc hb.size (.cells #[.int .i64 2, .int .i64 1, .slice A1 4 c1] 25)
  clear hb hG
  go_wp2_with fail
  refine (H2.out _ _ _ hG2 (HT.out.below hW)).mono ?_
  rintro e w2 ⟨rfl, hb⟩
  have hW := bt hb hW hW.size
  clear hb hG2
  go_wp2_with fail
  refine (H3.out _ (HT.out.below hW)).mono ?_
  rintro e w3 ⟨wi3, bi3, A3, n3, c3, rfl, hb⟩
  have hW := bt hb hW hW.size
  have hW := hW.alloc hW.size (.cells #[.int .i64 wi3, .int .i64 bi3, .slice A3 n3 c3] 25)
  clear hb
  go_wp2_with fail
  refine (H4.out _ (HT.out.below hW)).mono ?_
  rintro e w4 ⟨wi4, bi4, A4, n4, c4, rfl, hb⟩
  have hW := bt hb hW hW.size
  have hW := hW.alloc hW.size (.cells #[.int .i64 wi4, .int .i64 bi4, .slice A4 n4 c4] 25)
  clear hb
  go_wp2_with fail
  refine (H5.out _).mono ?_
  rintro e w5 ⟨A5, n5, c5, rfl, hb⟩
  have hW := bt hb hW hW.size
  clear hb
  go_wp2_with fail
  refine (H6.out _ (HT.out.below hW)).mono ?_
  rintro e w6 ⟨wi6, bi6, A6, n6, c6, rfl, hb⟩
  have hW := bt hb hW hW.size
  have hW := hW.alloc hW.size (.cells #[.int .i64 wi6, .int .i64 bi6, .slice A6 n6 c6] 25)
  clear hb
  go_wp2_with fail
  refine (H7.out _ (HT.out.below hW)).mono ?_
  rintro e w7 ⟨rfl, hb⟩
  have hW := bt hb hW hW.size
  clear hb H1 H2 H3 H4 H5 H6 H7
  go_wp2_with fail
  refine (H8.out _).mono ?_
  rintro e w8 ⟨rfl, hb⟩
  have hW := bt hb hW hW.size
  clear hb
  go_wp2_with fail
  go_ret
  exact ⟨rfl, hW⟩
end Go.Proofs.YtonnegkpjmhomaaGreatDoor
end
section
set_option linter.all false
namespace Go.Proofs.YtonnegkpjmhomaaGreatDoor
open Go.RowKit
theorem toksC_get {ps : List Part} {i : Nat} {p : Part} (h : ps[i]? = some p) : ∀ j, j < 3 → (toksC ps)[i * 3 + j]? = (tokC p)[j]? := by
  induction ps generalizing i with
  | nil => cases h
  | cons q ps ih =>
    intro j hj
    have e : toksC (q :: ps) = tokC q ++ toksC ps := rfl
    have e4 : (tokC q).length = 3 := rfl
    rw [e]
    cases i with
    | zero =>
      have h : q = p := by simpa using h
      subst h
      rw [Nat.zero_mul, Nat.zero_add, List.getElem?_append_left (by rw [e4]; exact hj)]
    | succ i =>
      rw [List.getElem?_append_right (by rw [e4]; omega), e4, show (i + 1) * 3 + j - 3 = i * 3 + j by omega]
      exact ih (by simpa using h) j hj
theorem toks_cells {w : World} {n0 : Nat} {t : TypeId} {v : Value} {ps : List Part} (h : w.ownsRow n0 t 3 v ps.length (toksC ps)) (hne : 0 < ps.length) :
    ∃ g c, v = .slice (some ⟨g, 0, none⟩) ps.length c ∧ ps.length ≤ c ∧ c ≤ maxLen ∧ g < w.heap.size ∧ ∀ i p, ps[i]? = some p → w.cell? ⟨g, i * 3, none⟩ = some (.int .i64 p.at_) ∧ w.cell? ⟨g, i * 3 + 1, none⟩ = some (.int .i64 p.kind) ∧ w.cell? ⟨g, i * 3 + 2, none⟩ = some (.string (bs p.text)) := by
  rcases h.2 with ⟨_, h0⟩ | ⟨g, cap, cur, rfl, _, hg, hnc, hcm, hcs, htk⟩
  · omega
  · have hh : w.ownsRow n0 t 3 (.slice (some ⟨g, 0, none⟩) ps.length cap) ps.length (toksC ps) := h
    refine ⟨g, cap, rfl, hnc, hcm, Blk.lt (t := t) (cs := cur) hg, fun i p hp => ?_⟩
    have hi : i < ps.length := by
      rcases Nat.lt_or_ge i ps.length with h | h
      · exact h
      · rw [List.getElem?_eq_none h] at hp; cases hp
    exact ⟨(hh.cellAt (i * 3) (by omega)).trans (toksC_get hp 0 (by decide)), (hh.cellAt (i * 3 + 1) (by omega)).trans (toksC_get hp 1 (by decide)), (hh.cellAt (i * 3 + 2) (by omega)).trans (toksC_get hp 2 (by decide))⟩
end Go.Proofs.YtonnegkpjmhomaaGreatDoor
end
