import Derived.Test.YtonnegkpjmhomaaGreatDoorDLaid18
import Derived.Test.YtonnegkpjmhomaaGreatDoorDLaid19
import Derived.Test.YtonnegkpjmhomaaGreatDoorDLaid25
set_option linter.all false
section
set_option linter.all false
namespace Go.Proofs.YtonnegkpjmhomaaGreatDoor
open Go.RowKit
set_option maxHeartbeats 1000000 in
theorem laidLetter_calls (z : Int) (w : World) : Calls Tryz.prog 42 #[.int .u8 z] w fun e w' => e = .returned (.bool (decide (97 ≤ z))) ∧ w = w' := by
  go_enter Tryz.func42, Tryz.ntmps42
  go_wp2_with fail
  go_ret
  exact ⟨rfl, rfl⟩
set_option maxHeartbeats 1000000 in
theorem laidSign_calls (z : Int) (w : World) : Calls Tryz.prog 43 #[.int .u8 z] w fun e w' => e = .returned (.bool (z == 59 || z == 58)) ∧ w = w' := by
  cases hz : z == 59
  · have hz2 : decide (z = 59) = false := by simpa using hz
    go_enter Tryz.func43, Tryz.ntmps43
    go_wp2_with fail
    go_ret
    exact ⟨by simp, rfl⟩
  · have hz2 : decide (z = 59) = true := by simpa using hz
    go_enter Tryz.func43, Tryz.ntmps43
    go_wp2_with fail
    go_ret
    exact ⟨by simp, rfl⟩
theorem tok_first {t : List UInt8} (h : ∃ k, Tok k t) : ∃ (b : UInt8) (r : List UInt8), t = b :: r ∧ decide (97 ≤ (b.toNat : Int)) = (clsT t == 1) ∧ ((b.toNat : Int) == 59 || (b.toNat : Int) == 58) = (clsT t == 3) ∧ t.length ≤ 8 ∧ 1 ≤ clsT t := by
  obtain ⟨k, h⟩ := h
  have hc := h.cls
  cases h with
  | word b t h h8 =>
    have hb : isL b = true := by simp only [List.all_cons, Bool.and_eq_true] at h; exact h.1
    unfold isL at hb
    simp only [Bool.and_eq_true, decide_eq_true_eq] at hb
    refine ⟨b, t, rfl, ?_, ?_, h8, by omega⟩
    · rw [hc]; simp; omega
    · rw [hc]; simp; omega
  | num b t h h3 _ =>
    have hb : isD b = true := by simp only [List.all_cons, Bool.and_eq_true] at h; exact h.1
    unfold isD at hb
    simp only [Bool.and_eq_true, decide_eq_true_eq] at hb
    refine ⟨b, t, rfl, ?_, ?_, by omega, by omega⟩
    · rw [hc]; simp; omega
    · rw [hc]; simp; omega
  | sign b h =>
    refine ⟨b, [], rfl, ?_, ?_, by simp, by omega⟩
    · rw [hc]; unfold isS at h; simp only [Bool.or_eq_true, beq_iff_eq] at h; rcases h with rfl | rfl <;> decide
    · rw [hc]; unfold isS at h; simp only [Bool.or_eq_true, beq_iff_eq] at h; rcases h with rfl | rfl <;> decide
def gapsL : List (List UInt8) := [[], [32], [10], [32, 35, 32, 104, 32, 48, 59, 10], [32, 32], [35, 10]]
def tailsL : List (List UInt8) := [[], [10], [32, 35], [35, 32, 101, 110, 100, 10]]
theorem lastK_get {l : List (List UInt8 × List UInt8)} {x : List (List UInt8)} {t : List UInt8} {k : Nat} (h : l.map (·.2) = x ++ [t]) : lastK k l = clsT t := by
  obtain ⟨a, b, rfl, h1, h2⟩ := List.map_eq_append_iff.1 h
  cases b with
  | nil => cases h2
  | cons y b =>
    obtain ⟨g, t'⟩ := y
    cases b with
    | cons _ _ => simp at h2
    | nil => simp at h2; subst h2; rw [lastK_app]; rfl
theorem gap_at {r : Int} (h0 : 0 ≤ r) (h1 : r < 6) : ∃ (n : Nat) (g : List UInt8), r = n ∧ g ∈ gapsL ∧ (#[Value.string ⟨#[]⟩, Value.string ⟨#[32]⟩, Value.string ⟨#[10]⟩, Value.string ⟨#[32, 35, 32, 104, 32, 48, 59, 10]⟩, Value.string ⟨#[32, 32]⟩, Value.string ⟨#[35, 10]⟩] : Array Value)[n]? = some (.string (bs g)) := by
  obtain ⟨n, rfl⟩ := Int.eq_ofNat_of_zero_le h0
  have : n < 6 := by omega
  refine ⟨n, gapsL[n]'(by unfold gapsL; simpa using this), rfl, List.getElem_mem _, ?_⟩
  match n, this with
  | 0, _ => rfl
  | 1, _ => rfl
  | 2, _ => rfl
  | 3, _ => rfl
  | 4, _ => rfl
  | 5, _ => rfl
theorem tail_at {r : Int} (h0 : 0 ≤ r) (h1 : r < 4) : ∃ (n : Nat) (g : List UInt8), r = n ∧ g ∈ tailsL ∧ (#[Value.string ⟨#[]⟩, Value.string ⟨#[10]⟩, Value.string ⟨#[32, 35]⟩, Value.string ⟨#[35, 32, 101, 110, 100, 10]⟩] : Array Value)[n]? = some (.string (bs g)) := by
  obtain ⟨n, rfl⟩ := Int.eq_ofNat_of_zero_le h0
  have : n < 4 := by omega
  refine ⟨n, tailsL[n]'(by unfold tailsL; simpa using this), rfl, List.getElem_mem _, ?_⟩
  match n, this with
  | 0, _ => rfl
  | 1, _ => rfl
  | 2, _ => rfl
  | 3, _ => rfl
theorem gaps_ok : ∀ g ∈ gapsL, Closed g ∧ g.length ≤ 8 := by
  intro g hg
  unfold gapsL at hg
  simp only [List.mem_cons, List.not_mem_nil, or_false] at hg
  rcases hg with rfl | rfl | rfl | rfl | rfl | rfl <;> refine ⟨fun r => ?_, by decide⟩ <;> simp [lay, isB] <;> omega
theorem tails_ok : ∀ g ∈ tailsL, Full g ∧ g.length ≤ 6 := by
  unfold tailsL Full
  decide
theorem own_not_store {W : World} {v : Value} {n b R m k base : Nat} {xs : List Value} (ho : W.ownsRow base 3 1 v n xs) (hs : StoreAt W b R m) (hR : R ≤ base) (hk : v.ownBlock = some k) : k ≠ b ∧ R ≤ k := by
  obtain ⟨h1, cur, h2⟩ := own_row_of ho hk
  obtain ⟨cs, h3⟩ := hs.blk
  exact ⟨fun e => h2.ne_ h3 (by decide) e, by omega⟩
def atsT (l : List (List UInt8 × List UInt8)) : List Int := (partsT 0 l).map (fun p => (p.at_ : Int))
structure LSt (l0 : List (List UInt8 × List UInt8)) (ts : List (List UInt8)) (k : Nat) (s0 : List UInt8) (ps : List Int) : Prop where
  toks : l0.map (·.2) = ts.take k
  ok : LaidOk 0 l0
  s : laidT l0 [] = s0
  len : s0.length ≤ 16 * k
  plen : ps.length = k
  pos : ps = atsT l0
set_option maxRecDepth 100000 in
set_option maxHeartbeats 16000000 in
theorem lawLaid_calls (b R m : Nat) (A : Option Addr) (c : Nat) (ts : List (List UInt8)) (w : World) (h : StoreAt w b R m) (hm : m ≤ 1000000) (n0 : Nat) (hrow : w.ownsRow n0 9 1 (.slice A ts.length c) ts.length (ts.map tokV)) (htk : ∀ t ∈ ts, ∃ c, Tok c t) (hl : ts.length ≤ 250) :
    Calls Tryz.prog 11 #[.pointer (some ⟨b, 0, none⟩), .slice A ts.length c] w fun e w' => ∃ (l : List (List UInt8 × List UInt8)) (tl : List UInt8) (av : Value), e = .returned (.tuple #[.string (bs (laidT l tl)), av]) ∧ l.map (·.2) = ts ∧ LaidOk 0 l ∧ Full tl ∧ (laidT l tl).length ≤ 16 * ts.length + 6 ∧
      w'.ownsRow w.heap.size 3 1 av ts.length ((atsT l).map (Value.int .i64)) ∧ StoreAt w' b R (m + 251) ∧ w.grownBy w' (some b) := by
  have HRow := Lib.hid hrow
  have HTk := Lib.hid htk
  have HS := Lib.hid h
  clear hrow htk h
  go_enter Tryz.func11, Tryz.ntmps11
  go_upto_region 4 with fail
  go_loopg [15, 6, 7] ts.length (fun gk s15 s6 s7 wr => ∃ (k : Nat) (l0 : List (List UInt8 × List UInt8)) (s0 : List UInt8) (ps : List Int) (og : Option Addr) (oc : Nat), k + gk = ts.length ∧ s15 = .int .i64 k ∧ s6 = .string (bs s0) ∧ s7 = .slice og ps.length oc ∧ s0.length ≤ 16 * k ∧ Hid (LSt l0 ts k s0 ps) ∧ StoreAt wr b R (m + k) ∧ wr.ownsRow w.heap.size 3 1 s7 ps.length (ps.map (Value.int .i64)) ∧ w.grownBy wr (some b))
  case atStart => exact ⟨0, [], [], [], none, 0, by omega, rfl, rfl, rfl, by simp, ⟨rfl, trivial, rfl, by simp, rfl, rfl⟩, HS.out, World.ownsRow_nil _ _ _ _, grown_refl w _⟩
  case round =>
    obtain ⟨k, l0, s0, ps, og, oc, hk, rfl, rfl, rfl, hs0, HL, hst, hown, hgr⟩ := hrel
    have HST := Lib.hid hst
    have HOwn := Lib.hid hown
    have HGr := Lib.hid hgr
    clear hst hown hgr
    cases gk with
    | zero =>
      obtain rfl : k = ts.length := by omega
      have HK := Lib.hid HL.out
      clear HL
      have hl2 : s0.length ≤ 4000 := by omega
      go_wp2_with fail
      have hsa := HST.out.alloc (.cells #[.string ⟨#[]⟩, .string ⟨#[10]⟩, .string ⟨#[32, 35]⟩, .string ⟨#[35, 32, 101, 110, 100, 10]⟩] 9)
      have hga := grown_alloc HGr.out (.cells #[.string ⟨#[]⟩, .string ⟨#[10]⟩, .string ⟨#[32, 35]⟩, .string ⟨#[35, 32, 101, 110, 100, 10]⟩] 9)
      have hoa := own_below HOwn.out (below1 wr (.cells #[.string ⟨#[]⟩, .string ⟨#[10]⟩, .string ⟨#[32, 35]⟩, .string ⟨#[35, 32, 101, 110, 100, 10]⟩] 9)) (Nat.le_refl _)
      have hX := Blk.new wr 9 #[.string ⟨#[]⟩, .string ⟨#[10]⟩, .string ⟨#[32, 35]⟩, .string ⟨#[35, 32, 101, 110, 100, 10]⟩]
      generalize wr.alloc (.cells #[.string ⟨#[]⟩, .string ⟨#[10]⟩, .string ⟨#[32, 35]⟩, .string ⟨#[35, 32, 101, 110, 100, 10]⟩] 9) = wa at *
      generalize wr.heap.size = X at *
      refine (less_calls b R (m + ts.length) 4 _ hsa (by omega) (by omega) (by omega)).mono ?_
      rintro e w1 ⟨v, rfl, v0, v1, hs1, g1⟩
      obtain ⟨n, tl, rfl, htl, hgx⟩ := tail_at v0 v1
      have hX1 := (hsa.blkKeep g1 hX (by decide)).cell n
      rw [hgx] at hX1
      have HG2 := Lib.hid (gTrans hga g1)
      have HO2 := Lib.hid (hsa.ownKeep g1 hoa (by decide))
      have HS1 := Lib.hid hs1
      have htk := tails_ok tl htl
      have htk2 := htk.2
      have HFull := Lib.hid htk.1
      have hz0 := bs_size s0
      have hzt := bs_size tl
      have hcs : ¬ 9223372036854775807 < (bs s0).size + (bs tl).size := by omega
      obtain ⟨s1, Hs1, hl1⟩ : ∃ s, Hid (s0 ++ tl = s) ∧ s.length ≤ 16 * ts.length + 6 := ⟨s0 ++ tl, by show _ = _; rfl, by rw [List.length_append]; omega⟩
      have hcat : bs s0 ++ bs tl = bs s1 := by rw [← Hs1.out]; exact bs_append _ _
      clear hsa hga hoa hX g1 hgx hs1 htk htl HST HOwn HGr
      go_wp2_with fail
      go_ret2
      have hK := HK.out
      have e0 : laidT l0 tl = s1 := by
        have := laidT_end l0 [] tl
        rw [List.nil_append] at this
        rw [this, hK.s, Hs1.out]
      refine ⟨l0, tl, .slice og ps.length oc, by rw [e0] <;> rfl, by rw [hK.toks, List.take_length], hK.ok, HFull.out, by rw [e0]; exact hl1, ?_, HS1.out.mono (by omega), HG2.out⟩
      have := HO2.out
      rw [← hK.pos]
      rw [hK.plen] at this ⊢
      exact this
    | succ g1 =>
      have hlt : k < ts.length := by omega
      have hlti : (k : Int) < (ts.length : Int) := by omega
      have hk0 : (0 : Int) ≤ (k : Int) := by omega
      obtain ⟨t, Ht, hgt⟩ : ∃ t, Hid (ts.take (k + 1) = ts.take k ++ [t]) ∧ ts[k]? = some t := ⟨ts[k], by show _ = _; rw [List.take_succ_eq_append_getElem hlt], List.getElem?_eq_getElem hlt⟩
      have hrow2 : wr.ownsRow n0 9 1 (.slice A ts.length c) ts.length (ts.map tokV) := HS.out.ownKeep HGr.out HRow.out (by decide)
      obtain ⟨ga, rfl, xt⟩ := str_at (ws := ts) hrow2 k t hgt
      obtain ⟨b0, r0, htb, hL0, hS0, h8, hc1⟩ := tok_first (HTk.out t (List.mem_of_getElem? hgt))
      have hts0 : 0 < (bs t).size := by rw [bs_size, htb]; simp
      have htg : ∀ h, (bs t)[0]'h = b0 := fun h => by rw [bs_get]; simp [htb]
      have Hcls : Hid (decide (97 ≤ (b0.toNat : Int)) = (clsT t == 1) ∧ ((b0.toNat : Int) == 59 || (b0.toNat : Int) == 58) = (clsT t == 3) ∧ 1 ≤ clsT t) := ⟨hL0, hS0, hc1⟩
      clear htb hL0 hS0 hc1
      have HXt := Lib.hid hrow2
      clear hrow2
      go_wp2_with fail
      have hsa := HST.out.alloc (.cells #[.string ⟨#[]⟩, .string ⟨#[32]⟩, .string ⟨#[10]⟩, .string ⟨#[32, 35, 32, 104, 32, 48, 59, 10]⟩, .string ⟨#[32, 32]⟩, .string ⟨#[35, 10]⟩] 9)
      have hga := grown_alloc HGr.out (.cells #[.string ⟨#[]⟩, .string ⟨#[32]⟩, .string ⟨#[10]⟩, .string ⟨#[32, 35, 32, 104, 32, 48, 59, 10]⟩, .string ⟨#[32, 32]⟩, .string ⟨#[35, 10]⟩] 9)
      have hoa := own_below HOwn.out (below1 wr (.cells #[.string ⟨#[]⟩, .string ⟨#[32]⟩, .string ⟨#[10]⟩, .string ⟨#[32, 35, 32, 104, 32, 48, 59, 10]⟩, .string ⟨#[32, 32]⟩, .string ⟨#[35, 10]⟩] 9)) (Nat.le_refl _)
      have hra := own_below HXt.out (below1 wr (.cells #[.string ⟨#[]⟩, .string ⟨#[32]⟩, .string ⟨#[10]⟩, .string ⟨#[32, 35, 32, 104, 32, 48, 59, 10]⟩, .string ⟨#[32, 32]⟩, .string ⟨#[35, 10]⟩] 9)) (Nat.le_refl _)
      have hX := Blk.new wr 9 #[.string ⟨#[]⟩, .string ⟨#[32]⟩, .string ⟨#[10]⟩, .string ⟨#[32, 35, 32, 104, 32, 48, 59, 10]⟩, .string ⟨#[32, 32]⟩, .string ⟨#[35, 10]⟩]
      generalize wr.alloc (.cells #[.string ⟨#[]⟩, .string ⟨#[32]⟩, .string ⟨#[10]⟩, .string ⟨#[32, 35, 32, 104, 32, 48, 59, 10]⟩, .string ⟨#[32, 32]⟩, .string ⟨#[35, 10]⟩] 9) = wa at *
      generalize wr.heap.size = X at *
      refine (less_calls b R (m + k) 6 _ hsa (by omega) (by omega) (by omega)).mono ?_
      rintro e w1 ⟨v, rfl, v0, v1, hs1, g1⟩
      obtain ⟨n, gap, rfl, hgap, hgx⟩ := gap_at v0 v1
      have hX1 := (hsa.blkKeep g1 hX (by decide)).cell n
      rw [hgx] at hX1
      have hg2 := gTrans hga g1
      have ho2 := hsa.ownKeep g1 hoa (by decide)
      have hr2 := hsa.ownKeep g1 hra (by decide)
      obtain ⟨ga', hga', xt⟩ := str_at (ws := ts) hr2 k t hgt
      cases hga'
      have HP := Lib.hid hs1
      have HG2 := Lib.hid hg2
      have HO2 := Lib.hid ho2
      have HR2 := Lib.hid hr2
      clear HST HOwn HGr HXt hsa hga hoa hra hX g1 hgx hs1 hg2 ho2 hr2
      go_upto_region 9 with fail
      go_cut [63] (fun s63 wx => ∃ (fb : Bool) (nq : Nat), s63 = .bool fb ∧ Hid (fb = false → gap = [] → clsT t = 3 ∨ clsT t ≠ lastK 0 l0) ∧ wx = w1.drewN nq)
      case first =>
        rcases Nat.eq_zero_or_pos k with hk1 | hk1
        · subst hk1
          have hd : decide ((0 : Int) < ((0 : Nat) : Int)) = false := rfl
          have hz : l0 = [] := by have := HL.out.toks; simpa using this
          go_quiet (fail)
          go_wp2_with fail
          go_meet
          refine ⟨false, nq, rfl, fun _ _ => .inr ?_, rfl⟩
          rw [hz]
          have := Hcls.out.2.2
          show clsT t ≠ 0
          omega
        · have hkp : (0 : Int) < (k : Int) := by omega
          have hkw : IntKind.i64.wrap ((k : Int) - 1) = (k : Int) - 1 := IntWalk.i64_in _ (by omega)
          have hkn : ((k : Int) - 1).toNat = k - 1 := by omega
          have hk2 : (0 : Int) ≤ (k : Int) - 1 := by omega
          have hk3 : (k : Int) - 1 < (ts.length : Int) := by omega
          have hlt1 : k - 1 < ts.length := by omega
          obtain ⟨tp, Htp, hgp⟩ : ∃ tp, Hid (ts.take k = ts.take (k - 1) ++ [tp]) ∧ ts[k - 1]? = some tp := ⟨ts[k - 1], by show _ = _; have e := List.take_succ_eq_append_getElem hlt1; rw [Nat.sub_add_cancel hk1] at e; exact e, List.getElem?_eq_getElem hlt1⟩
          have Hlk : Hid (lastK 0 l0 = clsT tp) := by show _ = _; exact lastK_get (by rw [HL.out.toks, Htp.out])
          obtain ⟨gb', hgb', xp⟩ := str_at (ws := ts) HR2.out (k - 1) tp hgp
          cases hgb'
          obtain ⟨bp, rp, htb, hLp, hSp, h8p, hcp⟩ := tok_first (HTk.out tp (List.mem_of_getElem? hgp))
          have htp0 : 0 < (bs tp).size := by rw [bs_size, htb]; simp
          have htpg : ∀ h, (bs tp)[0]'h = bp := fun h => by rw [bs_get]; simp [htb]
          have Hclp : Hid (decide (97 ≤ (bp.toNat : Int)) = (clsT tp == 1) ∧ ((bp.toNat : Int) == 59 || (bp.toNat : Int) == 58) = (clsT tp == 3)) := ⟨hLp, hSp⟩
          clear htb hLp hSp hcp hgp
          by_cases hgp : gap = []
          · have hge : (bs gap).toList.isEmpty = true := by rw [hgp, toList_ne]; rfl
            clear hgp
            cases hs1 : ((b0.toNat : Int) == 59 || (b0.toNat : Int) == 58)
            · cases hs2 : ((bp.toNat : Int) == 59 || (bp.toNat : Int) == 58)
              · go_quiet (first | (go_at_call 42; exact Calls.quiet_of_same ((laidLetter_calls _ _).mono fun _ _ h => ⟨h.1, h.2.symm⟩)) | (go_at_call 43; exact Calls.quiet_of_same ((laidSign_calls _ _).mono fun _ _ h => ⟨h.1, h.2.symm⟩)))
                go_wp2_with fail
                go_meet
                refine ⟨_, nq, rfl, fun hf _ => .inr ?_, rfl⟩
                rw [Hlk.out]
                intro e
                rw [Hcls.out.1, Hclp.out.1, e] at hf
                simp at hf
              · go_quiet (first | (go_at_call 42; exact Calls.quiet_of_same ((laidLetter_calls _ _).mono fun _ _ h => ⟨h.1, h.2.symm⟩)) | (go_at_call 43; exact Calls.quiet_of_same ((laidSign_calls _ _).mono fun _ _ h => ⟨h.1, h.2.symm⟩)))
                go_wp2_with fail
                go_meet
                refine ⟨_, nq, rfl, fun hf _ => ?_, rfl⟩
                have h3 := Hclp.out.2
                rw [hs2] at h3
                rw [Hlk.out]
                simp at h3
                omega
            · go_quiet (first | (go_at_call 42; exact Calls.quiet_of_same ((laidLetter_calls _ _).mono fun _ _ h => ⟨h.1, h.2.symm⟩)) | (go_at_call 43; exact Calls.quiet_of_same ((laidSign_calls _ _).mono fun _ _ h => ⟨h.1, h.2.symm⟩)))
              go_wp2_with fail
              go_meet
              refine ⟨_, nq, rfl, fun hf _ => .inl ?_, rfl⟩
              have h3 := Hcls.out.2.1
              rw [hs1] at h3
              simpa using h3.symm
          · have hge : (bs gap).toList.isEmpty = false := by rw [toList_ne]; cases gap with | nil => exact absurd rfl hgp | cons _ _ => rfl
            have Hgp := Lib.hid hgp
            clear hgp
            go_quiet (fail)
            go_wp2_with fail
            go_meet
            exact ⟨_, nq, rfl, fun _ h => absurd h Hgp.out, rfl⟩
      case rest =>
        obtain ⟨fb, nq, rfl, Hfb, rfl⟩ := hcut
        have hP2 : StoreAt (w1.drewN nq) b R (m + k + 1) := HP.out
        have hG3 : w.grownBy (w1.drewN nq) (some b) := grown_drewN HG2.out nq
        have hO3 : (w1.drewN nq).ownsRow w.heap.size 3 1 (.slice og ps.length oc) ps.length (ps.map (Value.int .i64)) := HO2.out
        have HP3 := Lib.hid hP2
        have HG4 := Lib.hid hG3
        have HO4 := Lib.hid hO3
        clear hP2 hG3 hO3 HP HG2 HO2 HR2 xt hX1 Hcls
        generalize w1.drewN nq = wz at *
        have Hgk := Lib.hid (gaps_ok gap hgap)
        go_upto_if 63 with fail
        go_cut [10] (fun s10 wx => ∃ g : List UInt8, s10 = .string (bs g) ∧ Hid (Closed g ∧ (g = [] → clsT t = 3 ∨ clsT t ≠ lastK 0 l0)) ∧ g.length ≤ 8 ∧ wx = wz)
        case first =>
          cases fb
          · have Hf := Lib.hid (Hfb.out rfl)
            clear Hfb
            go_wp2_with fail
            go_meet
            exact ⟨gap, rfl, ⟨Hgk.out.1, Hf.out⟩, Hgk.out.2, rfl⟩
          · clear Hfb
            go_wp2_with fail
            go_meet
            exact ⟨[32], rfl, ⟨(gaps_ok [32] (by unfold gapsL; simp)).1, fun h => by cases h⟩, by decide, rfl⟩
        case rest =>
          obtain ⟨g, rfl, Hg, hg8, rfl⟩ := hcut
          clear Hgk Hfb hgap
          have hz0 := bs_size s0
          have hzg := bs_size g
          have hzt := bs_size t
          obtain ⟨s1, Hs1, hl1⟩ : ∃ s, Hid (s0 ++ g = s) ∧ s.length ≤ 16 * k + 8 := ⟨s0 ++ g, by show _ = _; rfl, by rw [List.length_append]; omega⟩
          obtain ⟨s2, Hs2, hl2⟩ : ∃ s, Hid (s1 ++ t = s) ∧ s.length ≤ 16 * (k + 1) := ⟨s1 ++ t, by show _ = _; rfl, by rw [List.length_append]; omega⟩
          have hcat1 : bs s0 ++ bs g = bs s1 := by rw [← Hs1.out]; exact bs_append _ _
          have hcat2 : bs s1 ++ bs t = bs s2 := by rw [← Hs2.out]; exact bs_append _ _
          have hz1 := bs_size s1
          have hcs1 : ¬ 9223372036854775807 < (bs s0).size + (bs g).size := by omega
          have hcs2 : ¬ 9223372036854775807 < (bs s1).size + (bs t).size := by omega
          obtain ⟨j0, hji, hj0, hj1, hj2⟩ := info_parts infoI
          have Hpl : Hid (ps.length = k) := HL.out.plen
          have hpl : ps.length ≤ 250 := by have := Hpl.out; omega
          clear hts0 htg
          go_wp2_with (at_builtin; refine wpList_append_own _ rfl _ _ 30 rfl w.heap.size 3 j0 _ 1 8 Tryz.underlying30 hji hj0 hj1 hj2 rfl (by decide) _ _ _ rfl (own_below HO4.out (below1 wc (.cells #[.int .i64 (s1.length : Int)] 3)) (Nat.le_refl _)) ⟨wc.heap.size, 0, none⟩ 1 1 [.int .i64 (s1.length : Int)] rfl rfl (row_new _ _ _) (by simp [Value.oneCell']) (by unfold maxLen; omega) (by omega) (by have := HG4.out.size; simp; omega) ?_; intro v' w5 hown' hgrow _; obtain ⟨g', cap', rfl⟩ := ownsRow_succ hown')
          have hn1 : w5.ownsRow w.heap.size 3 1 (.slice (some ⟨g', 0, none⟩) (ps.length + 1) cap') (ps ++ [(s1.length : Int)]).length ((ps ++ [(s1.length : Int)]).map (Value.int .i64)) := by rw [List.length_append, List.map_append]; exact hown'
          have hst5 : StoreAt w5 b R (m + (k + 1)) := (HP3.out.alloc (.cells #[.int .i64 (s1.length : Int)] 3)).other hgrow (by intro kk hkk; exact own_not_store HO4.out HP3.out HS.out.top hkk)
          have hgr5 : w.grownBy w5 (some b) := grown_new (grown_alloc HG4.out (.cells #[.int .i64 (s1.length : Int)] 3)) hgrow (by intro kk hkk; obtain ⟨h1, _⟩ := own_row_of HO4.out hkk; exact h1)
          go_roundg g1
          case measure => omega
          case rel =>
            refine ⟨k + 1, l0 ++ [(g, t)], s2, ps ++ [(s1.length : Int)], some ⟨g', 0, none⟩, cap', by omega, by go_num, rfl, by rw [List.length_append]; rfl, hl2, ?_, hst5, hn1, hgr5⟩
            have HLo := HL.out
            have e0 : laidT l0 (g ++ t) = s2 := by
              have := laidT_end l0 [] (g ++ t)
              rw [List.nil_append] at this
              rw [this, HLo.s, ← Hs2.out, ← Hs1.out, List.append_assoc]
            refine ⟨by rw [List.map_append, HLo.toks, Ht.out]; rfl, laidOk_app.2 ⟨HLo.ok, Hg.out.1, HTk.out t (List.mem_of_getElem? hgt), Hg.out.2, trivial⟩, ?_, hl2, by rw [List.length_append, HLo.plen]; rfl, ?_⟩
            · rw [laidT_app]
              show laidT l0 (g ++ (t ++ [])) = s2
              rw [List.append_nil, e0]
            · unfold atsT
              rw [partsT_app, List.map_append, HLo.pos, ← Hs1.out]
              unfold atsT
              simp [partsT, HLo.s]
end Go.Proofs.YtonnegkpjmhomaaGreatDoor
end
