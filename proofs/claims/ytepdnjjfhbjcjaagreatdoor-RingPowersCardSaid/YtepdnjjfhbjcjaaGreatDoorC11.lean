import Derived.Lib.IndexMore
import Derived.Test.YtepdnjjfhbjcjaaGreatDoorC9
import Derived.Test.YtepdnjjfhbjcjaaGreatDoorC10
set_option linter.all false
section
namespace Go.Proofs.YtepdnjjfhbjcjaaGreatDoor
def readIn (m : List UInt8) : Option (Pt × Nat) :=
  if Lib.index m [41, 47, 114] < 0 then none
  else if digN (m.drop ((Lib.index m [41, 47, 114]).toNat + 3)) ≠ (m.drop ((Lib.index m [41, 47, 114]).toNat + 3)).length ∨ digN (m.drop ((Lib.index m [41, 47, 114]).toNat + 3)) = 0 ∨ 2 < digN (m.drop ((Lib.index m [41, 47, 114]).toNat + 3)) then none
  else some (readT 4 Pt.zero (m.take (Lib.index m [41, 47, 114]).toNat), decV 0 (m.drop ((Lib.index m [41, 47, 114]).toNat + 3)))
def readX (l : List UInt8) : Option (Pt × Nat) := if Lib.hasPrefix l [40] then readIn (l.drop 1) else some (readT 4 Pt.zero l, 0)
def good (x : Nm) : Prop := x.chk = 0 ∧ nmOf (Pt.red x.k.toNat x.p) = x
def accept (l : List UInt8) (p : Pt) (k : Nat) : Bool := decide (Nm.chk ⟨p, k⟩ = 0) && (decide (Pt.red k p = (p, k)) && decide (textB ⟨p, k⟩ = l))
def sParse (l : List UInt8) : Nm × Int := match readX l with
  | none => (Nm.zero, 4)
  | some (p, k) => if accept l p k then (⟨p, k⟩, 0) else (Nm.zero, 4)
theorem good_red {x : Nm} (h : good x) : Pt.red x.k.toNat x.p = (x.p, x.k.toNat) := by
  obtain ⟨_, h⟩ := h
  obtain ⟨p, k⟩ := x
  unfold nmOf at h
  injection h with h1 h2
  dsimp only at h1 h2 ⊢
  refine Prod.ext h1 ?_
  dsimp only
  omega
theorem red_good {p : Pt} {k : Nat} (h : Nm.chk ⟨p, k⟩ = 0) (h2 : Pt.red k p = (p, k)) : good ⟨p, k⟩ := by
  refine ⟨h, ?_⟩
  show nmOf (Pt.red (k : Int).toNat p) = _
  rw [Int.toNat_natCast, h2]
  rfl
theorem terms_zero {p : Pt} (h : p.le 1073741824) (ht : termsN p 4 = []) : p = Pt.zero := by
  have := readT_terms h
  rw [ht] at this
  exact this.symm
theorem readX_text {x : Nm} (h : good x) : readX (textB x) = some (x.p, x.k.toNat) := by
  obtain ⟨hc, hr⟩ := id h
  obtain ⟨hp, hk0, hk1⟩ := Nm.chk_ok hc
  have hrt := readT_terms hp
  have hin : ∀ b ∈ termsN x.p 4, inT b = true := by rw [termsN_eq]; exact tfT_in _
  have hz := @terms_zero x.p hp
  unfold textB
  by_cases h0 : termsN x.p 4 = []
  · rw [if_pos h0]
    have e := hz h0
    have e2 : x.k = 0 := by
      rw [e, Pt.red_zero] at hr
      exact (congrArg Nm.k hr).symm
    rw [e, e2]
    decide
  rw [if_neg h0]
  generalize hT : termsN x.p 4 = T at *
  by_cases h1 : x.k = 0
  · rw [if_pos h1]
    have e : Lib.hasPrefix T [40] = false := by
      cases T with
      | nil => exact absurd rfl h0
      | cons b r =>
        have := hin b (by simp)
        have hne : b ≠ 40 := fun e => by rw [e] at this; simp [inT, isD] at this
        show ([40] : List UInt8).isPrefixOf (b :: r) = false
        have : ((40 : UInt8) == b) = false := by rw [beq_eq_false_iff_ne]; exact fun e => hne e.symm
        simp [List.isPrefixOf, this]
    unfold readX
    rw [e, hrt, h1]
    rfl
  · rw [if_neg h1]
    have e1 : (([40] ++ T) ++ [41, 47, 114]) ++ Lib.itoa x.k = 40 :: (T ++ ([41, 47, 114] ++ Lib.itoa x.k)) := by simp
    have e2 : Lib.itoa x.k = Lib.decDigits x.k.toNat := by unfold Lib.itoa; rw [if_neg (by omega)]
    rw [e1, e2]
    have e3 : Lib.hasPrefix (40 :: (T ++ ([41, 47, 114] ++ Lib.decDigits x.k.toNat))) [40] = true := rfl
    unfold readX
    rw [if_pos e3]
    show readIn (T ++ ([41, 47, 114] ++ Lib.decDigits x.k.toNat)) = _
    have e4 : digN (Lib.decDigits x.k.toNat) = (Lib.decDigits x.k.toNat).length := by
      have := digN_append (r := []) (decDigits_isD x.k.toNat) rfl
      rwa [List.append_nil] at this
    have e5 : (Lib.decDigits x.k.toNat).length ≤ 2 := by
      rw [Lib.decDigits_length]
      exact nDigits_le 1 _ (by have : (10 : Nat) ^ (1 + 1) = 100 := by decide
                               omega)
    have e6 : 0 < (Lib.decDigits x.k.toNat).length := List.length_pos_iff.2 (decDigits_ne _)
    have e7 : (T ++ ([41, 47, 114] ++ Lib.decDigits x.k.toNat)).drop (T.length + 3) = Lib.decDigits x.k.toNat := by
      rw [← List.append_assoc]
      exact List.drop_left' (by simp)
    unfold readIn
    rw [index_terms T _ hin, if_neg (by omega), Int.toNat_natCast, e7, if_neg (by rw [e4]; omega), List.take_left, hrt, decV_decDigits]
theorem accept_iff {l : List UInt8} {p : Pt} {k : Nat} : accept l p k = true ↔ good ⟨p, k⟩ ∧ textB ⟨p, k⟩ = l := by
  unfold accept
  simp only [Bool.and_eq_true, decide_eq_true_eq]
  constructor
  · rintro ⟨h1, h2, h3⟩
    exact ⟨red_good h1 h2, h3⟩
  · rintro ⟨h1, h2⟩
    exact ⟨h1.1, by simpa using good_red h1, h2⟩
theorem sParse_text {x : Nm} (h : good x) : sParse (textB x) = (x, 0) := by
  obtain ⟨_, b1, _⟩ := Nm.chk_ok h.1
  unfold sParse
  rw [readX_text h]
  obtain ⟨p, k⟩ := x
  dsimp only at *
  have e : ((k.toNat : Nat) : Int) = k := by omega
  have : accept (textB ⟨p, k⟩) p k.toNat = true := by
    rw [accept_iff, e]
    exact ⟨h, rfl⟩
  rw [if_pos this, e]
end Go.Proofs.YtepdnjjfhbjcjaaGreatDoor
end
section
namespace Go.Proofs.YtepdnjjfhbjcjaaGreatDoor
open Go.RowKit
theorem Index_calls (l p : List UInt8) (hl : l.length ≤ 1000000) (w : World) (ht : Tabs w) :
    Calls Tryz.prog 59 #[.string (bs l), .string (bs p)] w fun e w' => e = .returned (.int .i64 (Lib.index l p)) ∧ w = w' := by
  obtain ⟨_, m, hm⟩ := ht
  have h := Tryz.strings_Index (bs l) (bs p) m w (by rw [bs_size]; omega) hm
  rw [bs_list, bs_list] at h
  exact h.mono fun _ _ ⟨he, hw⟩ => ⟨he, hw.symm⟩
theorem termP_len (l : List UInt8) : (termP l).2.2.length ≤ l.length := by
  have h1 : (termSign l).2.length ≤ l.length := by
    unfold termSign
    split
    · simp
    · repeat' split
      all_goals simp
  have h2 : ∀ c m, (termNum c m).2.length ≤ m.length := by
    intro c m
    unfold termNum
    split <;> simp
  have h3 : ∀ c m, (termUnit c m).2.2.length ≤ m.length := by
    intro c m
    unfold termUnit
    repeat' split
    all_goals simp
  unfold termP
  exact Nat.le_trans (h3 _ _) (Nat.le_trans (h2 _ _) h1)
theorem termP_lt (l : List UInt8) : (termP l).1 ≤ 3 := by
  unfold termP termUnit
  repeat' split
  all_goals simp
attribute [local go_sem high] eqNum
set_option maxRecDepth 100000 in
set_option maxHeartbeats 4000000 in
theorem Parse_calls (l : List UInt8) (hl : l.length ≤ 1000) (w : World) (ht : Tabs w) :
    Calls Tryz.prog 25 #[.string (bs l)] w fun e w' => ∃ (y : Nm) (er : Int), e = .returned (.tuple #[.agg #[.int .i64 y.p.a, .int .i64 y.p.b, .int .i64 y.p.c, .int .i64 y.p.d, .int .i64 y.k], .int .i64 er]) ∧ sParse l = (y, er) ∧ Below w.heap.size w w' := by
  have HT := Lib.hid ht
  clear ht
  have hz : (bs l).size = l.length := bs_size l
  go_enter Tryz.func25, Tryz.ntmps25
  go_wp2_with fail
  refine (Cut_calls l [40] _).mono ?_
  rintro e w1 ⟨rfl, rfl⟩
  go_upto_if 24 with fail
  go_cut [4, 5, 6, 7] (fun s4 s5 _ _ wx => ∃ (m : List UInt8) (k : Nat), readX l = some (readT 4 Pt.zero m, k) ∧ m.length ≤ 1000 ∧ s4 = .string (bs m) ∧ s5 = .int .i64 k ∧ Blk wx w.heap.size 23 #[.int .i64 0, .int .i64 0, .int .i64 0, .int .i64 0, .int .i64 0] ∧ Below w.heap.size w wx)
  case first =>
    cases hp : Lib.hasPrefix l [40]
    · have Hv : Hid (readX l = some (readT 4 Pt.zero l, 0)) := by show _ = _; unfold readX; rw [hp]; rfl
      go_wp2_with fail
      go_meet
      exact ⟨l, 0, Hv.out, hl, rfl, rfl, Blk.new _ _ _, below1 _ _⟩
    · have Hv : Hid (readX l = readIn (l.drop 1)) := by show _ = _; unfold readX; rw [hp]; rfl
      have ht1 : Lib.trimPrefix l [40] = l.drop 1 := by unfold Lib.trimPrefix; rw [hp]; rfl
      have Hn : Hid (readX l = none → sParse l = (Nm.zero, 4)) := fun h => by unfold sParse; rw [h]
      rw [ht1]
      have hm : (l.drop 1).length ≤ 1000 := by simp; omega
      clear ht1 hp
      generalize l.drop 1 = m at *
      go_wp2_with fail
      refine (Index_calls m [41, 47, 114] (by omega) _ (HT.out.below (below1 _ _))).mono ?_
      rintro e w1 ⟨rfl, rfl⟩
      have hge := Lib.index_ge m [41, 47, 114]
      by_cases hi : Lib.index m [41, 47, 114] < 0
      · have Hs : Hid (sParse l = (Nm.zero, 4)) := Hn.out (by rw [Hv.out]; unfold readIn; rw [if_pos hi])
        go_wp2_with fail
        refine bodyPost_ret (v := .tuple #[.agg #[.int .i64 0, .int .i64 0, .int .i64 0, .int .i64 0, .int .i64 0], .int .i64 4]) (by simp [results, Tryz.results25, go_sem]) rfl ⟨Nm.zero, 4, rfl, Hs.out, ?_⟩
        exact below1 _ _
      · have hroom := Lib.index_room m [41, 47, 114] (by omega)
        obtain ⟨at_, ha⟩ : ∃ a : Nat, Lib.index m [41, 47, 114] = (a : Int) := ⟨(Lib.index m [41, 47, 114]).toNat, by omega⟩
        have hr : at_ + 3 ≤ m.length := by simp at hroom; omega
        have Hv2 : Hid (readX l = if digN (m.drop (at_ + 3)) ≠ (m.drop (at_ + 3)).length ∨ digN (m.drop (at_ + 3)) = 0 ∨ 2 < digN (m.drop (at_ + 3)) then none else some (readT 4 Pt.zero (m.take at_), decV 0 (m.drop (at_ + 3)))) := by
          show _ = _
          rw [Hv.out]; unfold readIn; rw [if_neg hi, ha, Int.toNat_natCast]
        rw [ha]
        clear hroom hge hi ha Hv
        have hzm : (bs m).size = m.length := bs_size m
        have hx : (bs m).extract (at_ + 3) m.length = bs (m.drop (at_ + 3)) := by rw [bs_extract, List.take_of_length_le (by simp)]
        have hx2 : (bs m).extract 0 at_ = bs (m.take at_) := by rw [bs_extract]; simp
        have hln : (m.drop (at_ + 3)).length ≤ 1000 := by simp; omega
        have hlt : (m.take at_).length ≤ 1000 := by simp; omega
        generalize m.drop (at_ + 3) = nb at *
        generalize m.take at_ = tk at *
        have hznb : (bs nb).size = nb.length := bs_size nb
        go_wp2_with fail
        refine (digits_calls nb (by omega) _).mono ?_
        rintro e w1 ⟨rfl, hb1⟩
        have hbw := bt hb1 (below1 _ _) (by simp)
        have hR : Blk w1 w.heap.size 23 #[.int .i64 0, .int .i64 0, .int .i64 0, .int .i64 0, .int .i64 0] := Blk.below (Blk.new w _ _) hb1 (by simp)
        obtain ⟨r0, r1, r2, r3, r4, rf⟩ := hR.cells5
        clear hb1
        by_cases hbad : digN nb ≠ nb.length ∨ digN nb = 0 ∨ 2 < digN nb
        · have Hs : Hid (sParse l = (Nm.zero, 4)) := Hn.out (by rw [Hv2.out, if_pos hbad])
          clear Hv2
          have hfin : ∀ wz, wz = ((((w1.setCell ⟨w.heap.size, 0, none⟩ (.int .i64 0)).setCell ⟨w.heap.size, 1, none⟩ (.int .i64 0)).setCell ⟨w.heap.size, 2, none⟩ (.int .i64 0)).setCell ⟨w.heap.size, 3, none⟩ (.int .i64 0)).setCell ⟨w.heap.size, 4, none⟩ (.int .i64 0) → Below w.heap.size w wz := by
            rintro _ rfl; exact below_put5 hbw (Nat.le_refl _) _ _ _ _ _
          by_cases h1 : digN nb = nb.length
          · by_cases h2 : nb.length = 0
            · obtain rfl : nb = [] := List.length_eq_zero_iff.1 h2
              rw [show digN [] = 0 from rfl]
              have hz0 : (bs []).size = 0 := rfl
              clear hbad h1 h2 hznb
              go_wp2_with fail
              all_goals refine bodyPost_ret (v := .tuple #[.agg #[.int .i64 0, .int .i64 0, .int .i64 0, .int .i64 0, .int .i64 0], .int .i64 4]) ?_ rfl ⟨Nm.zero, 4, rfl, Hs.out, hfin _ rfl⟩
              all_goals simp [results, Tryz.results25, go_sem, r0, r1, r2, r3, r4]
            · have b2 : ((nb.length : Int) == 0) = false := by rw [beq_eq_false_iff_ne]; omega
              have b3 : decide ((2 : Int) < (nb.length : Int)) = true := by simp; omega
              rw [h1]
              clear hbad h1 h2
              go_wp2_with fail
              all_goals refine bodyPost_ret (v := .tuple #[.agg #[.int .i64 0, .int .i64 0, .int .i64 0, .int .i64 0, .int .i64 0], .int .i64 4]) ?_ rfl ⟨Nm.zero, 4, rfl, Hs.out, hfin _ rfl⟩
              all_goals simp [results, Tryz.results25, go_sem, r0, r1, r2, r3, r4]
          · have b1 : ((digN nb : Int) != (nb.length : Int)) = true := by simp; omega
            clear hbad h1
            generalize digN nb = d at *
            go_wp2_with fail
            all_goals refine bodyPost_ret (v := .tuple #[.agg #[.int .i64 0, .int .i64 0, .int .i64 0, .int .i64 0, .int .i64 0], .int .i64 4]) ?_ rfl ⟨Nm.zero, 4, rfl, Hs.out, hfin _ rfl⟩
            all_goals simp [results, Tryz.results25, go_sem, r0, r1, r2, r3, r4]
        · have Hv3 : Hid (readX l = some (readT 4 Pt.zero tk, decV 0 nb)) := by show _ = _; rw [Hv2.out, if_neg hbad]
          have hd : digN nb = nb.length := by omega
          have hne : nb ≠ [] := fun h => hbad (.inr (.inl (by rw [h]; rfl)))
          have hall : ∀ b ∈ nb, isD b = true := by have := digN_take nb nb.length (by omega); rwa [List.take_length] at this
          have hl2 : nb.length ≤ 2 := by omega
          have HA := Lib.hid (fun W => Atoi_calls nb hne hall (by omega) W)
          have hl1 : 0 < nb.length := List.length_pos_iff.2 hne
          have b1 : ((nb.length : Int) != (nb.length : Int)) = false := by simp
          have b2 : ((nb.length : Int) == 0) = false := by rw [beq_eq_false_iff_ne]; omega
          have b3 : decide ((2 : Int) < (nb.length : Int)) = false := by simp; omega
          rw [hd]
          clear hbad Hv2 hd hne hall Hn
          generalize decV 0 nb = v at *
          go_wp2_with fail
          refine (HA.out _).mono ?_
          rintro e w2 ⟨rfl, hb1⟩
          have hR := hR.below hb1 hR.lt
          have hbw := bt hb1 hbw hbw.size
          clear hb1
          go_wp2_with fail
          go_meet
          exact ⟨tk, v, Hv3.out, hlt, rfl, rfl, hR, hbw⟩
  case rest =>
    clear hz
    obtain ⟨m, k, hx, hm, rfl, rfl, hR, hbw⟩ := hcut
    have Hx := Lib.hid hx
    clear hx
    go_upto_block 0 with fail
    have hP : Blk (wc.alloc (.cells #[.int .i64 0, .int .i64 0, .int .i64 0, .int .i64 0] 66)) wc.heap.size 66 #[.int .i64 Pt.zero.a, .int .i64 Pt.zero.b, .int .i64 Pt.zero.c, .int .i64 Pt.zero.d] := Blk.new _ _ _
    have hbs := hbw.size
    have hbw := hbw.alloc hbw.size (.cells #[.int .i64 0, .int .i64 0, .int .i64 0, .int .i64 0] 66)
    have hRl : w.heap.size < wc.heap.size := hR.lt
    have hR := hR.alloc (.cells #[.int .i64 0, .int .i64 0, .int .i64 0, .int .i64 0] 66)
    generalize hB : wc.heap.size = B at *
    generalize hW : wc.alloc (.cells #[.int .i64 0, .int .i64 0, .int .i64 0, .int .i64 0] 66) = wa at *
    clear hB hW
    go_cut [4, 12, 13, 14, 57] (fun _ _ _ _ _ wx => ∃ P : Pt, readT 4 Pt.zero m = P ∧ Blk wx B 66 #[.int .i64 P.a, .int .i64 P.b, .int .i64 P.c, .int .i64 P.d] ∧ Blk wx w.heap.size 23 #[.int .i64 0, .int .i64 0, .int .i64 0, .int .i64 0, .int .i64 0] ∧ Below w.heap.size w wx)
    case first =>
      go_wp2_with fail
      go_loopg [4, 12, 13, 14, 57] 4 (fun g s4 _ _ _ s57 wr => ∃ (i : Nat) (P : Pt) (r : List UInt8), g + i = 4 ∧ s4 = .string (bs r) ∧ s57 = .int .i64 i ∧ r.length ≤ 1000 ∧ readT 4 Pt.zero m = readT g P r ∧
        Blk wr B 66 #[.int .i64 P.a, .int .i64 P.b, .int .i64 P.c, .int .i64 P.d] ∧ Blk wr w.heap.size 23 #[.int .i64 0, .int .i64 0, .int .i64 0, .int .i64 0, .int .i64 0] ∧ Below w.heap.size w wr)
      case atStart => exact ⟨0, Pt.zero, m, rfl, rfl, rfl, hm, rfl, hP, hR, hbw⟩
      case round =>
        clear hP hR hbw hm
        obtain ⟨i, P, r, hgi, rfl, rfl, hr, hrd, hP, hR, hbw⟩ := hrel
        have Hrd := Lib.hid hrd
        clear hrd
        cases gk with
        | zero =>
          obtain rfl : i = 4 := by omega
          go_wp2_with fail
          go_meet
          exact ⟨P, by rw [Hrd.out]; rfl, hP, hR, hbw⟩
        | succ g =>
          have hi : i < 4 := by omega
          cases r with
          | nil =>
            have he : (bs []).toList.isEmpty = true := by rw [bs_empty]; rfl
            go_wp2_with fail
            go_meet
            exact ⟨P, by rw [Hrd.out]; rfl, hP, hR, hbw⟩
          | cons b r =>
            have he : (bs (b :: r)).toList.isEmpty = false := by rw [bs_empty]; rfl
            go_wp2_with fail
            refine (term_calls (b :: r) hr _).mono ?_
            rintro e w1 ⟨rfl, hb1⟩
            have h1 := termP_lt (b :: r)
            have h2 := termP_len (b :: r)
            have Hr : Hid (readT 4 Pt.zero m = readT g (putP P (termP (b :: r)).1 (termP (b :: r)).2.1) (termP (b :: r)).2.2) := by show _ = _; rw [Hrd.out]; rfl
            have hP := hP.below hb1 hP.lt
            have hR := hR.below hb1 hR.lt
            have hbw := bt hb1 hbw hbw.size
            clear hb1 Hrd he
            generalize (termP (b :: r)).2.2 = r2 at *
            generalize (termP (b :: r)).2.1 = c at *
            generalize (termP (b :: r)).1 = n at *
            obtain ⟨p0, p1, p2, p3, pf⟩ := hP.cells4
            have hne : w.heap.size ≠ B := by omega
            have hf : r2.length ≤ 1000 := Nat.le_trans h2 hr
            clear h2
            match n, h1 with
            | 0, _ =>
              go_wp2_with fail
              go_roundg g
              case measure => omega
              case rel => exact ⟨i + 1, putP P 0 c, r2, by omega, rfl, by go_num, hf, Hr.out, hP.set_ 0 _, hR.far hne _, hbw.setCell (by omega) _⟩
            | 1, _ =>
              go_wp2_with fail
              go_roundg g
              case measure => omega
              case rel => exact ⟨i + 1, putP P 1 c, r2, by omega, rfl, by go_num, hf, Hr.out, hP.set_ 1 _, hR.far hne _, hbw.setCell (by omega) _⟩
            | 2, _ =>
              go_wp2_with fail
              go_roundg g
              case measure => omega
              case rel => exact ⟨i + 1, putP P 2 c, r2, by omega, rfl, by go_num, hf, Hr.out, hP.set_ 2 _, hR.far hne _, hbw.setCell (by omega) _⟩
            | 3, _ =>
              go_wp2_with fail
              go_roundg g
              case measure => omega
              case rel => exact ⟨i + 1, putP P 3 c, r2, by omega, rfl, by go_num, hf, Hr.out, hP.set_ 3 _, hR.far hne _, hbw.setCell (by omega) _⟩
    case rest =>
      clear hP hR hbw
      obtain ⟨P, hrd, hP, hR, hbw⟩ := hcut
      have Hx2 : Hid (readX l = some (P, k)) := by show _ = _; rw [Hx.out, hrd]
      clear hrd Hx hm
      obtain ⟨p0, p1, p2, p3, pf⟩ := hP.cells4
      go_wp2_with fail
      refine (of_calls _ _ _ _ _ _).mono ?_
      rintro e w2 ⟨rfl, hb1⟩
      have hR := hR.below hb1 hR.lt
      have hbw := bt hb1 hbw hbw.size
      clear hb1 hP p0 p1 p2 p3 pf
      go_wp2_with fail
      refine (Check_calls _ _ _ _ _ _).mono ?_
      rintro e w3 ⟨rfl, hb1⟩
      have hX : Blk w3 w2.heap.size 23 #[.int .i64 P.a, .int .i64 P.b, .int .i64 P.c, .int .i64 P.d, .int .i64 k] := Blk.below (Blk.new w2 _ _) hb1 (by simp)
      have hne : w.heap.size < w2.heap.size := hR.lt
      have hR := (hR.alloc (.cells #[.int .i64 P.a, .int .i64 P.b, .int .i64 P.c, .int .i64 P.d, .int .i64 k] 23)).below hb1 (by simp; omega)
      have hbw := bt hb1 (hbw.alloc hbw.size _) (by have := hbw.size; simp; omega)
      clear hb1
      generalize w2.heap.size = X at *
      obtain ⟨x0, x1, x2, x3, x4, xf⟩ := hX.cells5
      obtain ⟨n, hn⟩ : ∃ n : Int, Go.Proofs.YtepdnjjfhbjcjaaGreatDoor.chk P.a P.b P.c P.d k = n := ⟨_, rfl⟩
      have Hn : Hid (Nm.chk ⟨P, k⟩ = n) := hn
      rw [hn]
      clear hn
      by_cases h0 : n = 0
      · subst h0
        obtain ⟨hle, _, hk1⟩ := Nm.chk_ok Hn.out
        have hk1 : k ≤ 60 := by dsimp only at hk1; omega
        go_wp2_with fail
        refine (work_calls _ _ _ _ _ _).mono ?_
        rintro e w4 ⟨rfl, hb1⟩
        have hX := hX.below hb1 hX.lt
        have hR := hR.below hb1 hR.lt
        have hbw := bt hb1 hbw hbw.size
        clear hb1 x0 x1 x2 x3 x4 xf
        go_wp2_with fail
        refine (least_nm P k _ (Pt.sm_mono (Pt.le_sm hle) (by omega)) (by omega) _).mono ?_
        rintro e w5 ⟨y, er, rfl, hy, hb1⟩
        have hX := hX.below hb1 hX.lt
        have hR := hR.below hb1 hR.lt
        have hbw := bt hb1 hbw hbw.size
        clear hb1
        have hred := okN_red (x := ⟨P, k⟩) Hn.out
        dsimp only at hred
        rw [Int.toNat_natCast] at hred
        rw [hred] at hy
        injection hy with hy her
        subst her
        obtain ⟨x0, x1, x2, x3, x4, xf⟩ := hX.cells5
        have hXl := hX.lt
        have hRl2 := hR.lt
        by_cases hxy : Pt.red k P = (P, k)
        · rw [hxy] at hy
          subst hy
          dsimp only
          have HX := Lib.hid (fun W h => text_calls ⟨P, k⟩ hle ⟨by simp, by dsimp only; omega⟩ W h)
          dsimp only at HX
          clear hred hle
          go_wp2_with fail
          refine (HX.out _ (HT.out.below (hbw.alloc hbw.size _))).mono ?_
          rintro e w6 ⟨rfl, hb1⟩
          have hX := (hX.alloc (.cells #[.int .i64 P.a, .int .i64 P.b, .int .i64 P.c, .int .i64 P.d, .int .i64 k] 23)).below hb1 (by simp; omega)
          have hR := (hR.alloc (.cells #[.int .i64 P.a, .int .i64 P.b, .int .i64 P.c, .int .i64 P.d, .int .i64 k] 23)).below hb1 (by simp; omega)
          have hbw := bt hb1 (hbw.alloc hbw.size _) (by have := hbw.size; simp; omega)
          clear hb1 x0 x1 x2 x3 x4 xf hXl hRl2
          obtain ⟨x0, x1, x2, x3, x4, xf⟩ := hX.cells5
          obtain ⟨r0, r1, r2, r3, r4, rf⟩ := hR.cells5
          by_cases hs : textB ⟨P, k⟩ = l
          · have Hs : Hid (sParse l = (⟨P, k⟩, 0)) := by
              show _ = _
              unfold sParse
              rw [Hx2.out]
              dsimp only
              rw [if_pos]
              rw [accept_iff]
              exact ⟨red_good Hn.out hxy, hs⟩
            rw [hs]
            clear hs hxy
            go_wp2_with fail
            refine bodyPost_ret (v := .tuple #[.agg #[.int .i64 P.a, .int .i64 P.b, .int .i64 P.c, .int .i64 P.d, .int .i64 k], .int .i64 0]) (by simp [results, Tryz.results25, go_sem, r0, r1, r2, r3, r4]) rfl ⟨⟨P, k⟩, 0, rfl, Hs.out, ?_⟩
            exact below_put5 hbw (Nat.le_refl _) _ _ _ _ _
          · have Hs : Hid (sParse l = (Nm.zero, 4)) := by
              show _ = _
              unfold sParse
              rw [Hx2.out]
              dsimp only
              rw [if_neg]
              rw [accept_iff]
              rintro ⟨_, h2⟩
              exact hs h2
            have hsb : ((bs (textB ⟨P, k⟩)).toList == (bs l).toList) = false := by
              rw [beq_eq_false_iff_ne]
              intro h
              apply hs
              simpa [bs, ByteArray.toList_eq] using h
            clear hs hxy
            go_wp2_with fail
            refine bodyPost_ret (v := .tuple #[.agg #[.int .i64 0, .int .i64 0, .int .i64 0, .int .i64 0, .int .i64 0], .int .i64 4]) (by simp [results, Tryz.results25, go_sem, r0, r1, r2, r3, r4]) rfl ⟨Nm.zero, 4, rfl, Hs.out, ?_⟩
            exact below_put5 hbw (Nat.le_refl _) _ _ _ _ _
        · have hne2 : ¬ (y.p.a = P.a ∧ y.p.b = P.b ∧ y.p.c = P.c ∧ y.p.d = P.d ∧ y.k = k) := by
            rintro ⟨h1, h2, h3, h4, h5⟩
            refine hxy (Prod.ext ?_ ?_)
            · rw [← hy] at h1 h2 h3 h4; exact Pt.ext' h1 h2 h3 h4
            · rw [← hy] at h5; exact Int.ofNat_inj.1 h5
          have Hs : Hid (sParse l = (Nm.zero, 4)) := by
            show _ = _
            unfold sParse
            rw [Hx2.out]
            dsimp only
            rw [if_neg]
            rw [accept_iff]
            rintro ⟨h1, _⟩
            have := good_red h1
            dsimp only at this
            rw [Int.toNat_natCast] at this
            exact hxy this
          clear hxy hred hy
          obtain ⟨r0, r1, r2, r3, r4, rf⟩ := hR.cells5
          go_wp2_with fail
          obtain ⟨q0, q1, q2, q3, q4, _⟩ := ((hR.put5 (a' := .int .i64 0) (b' := .int .i64 0) (c' := .int .i64 0) (d' := .int .i64 0) (e' := .int .i64 0)).alloc (.cells #[.int .i64 y.p.a, .int .i64 y.p.b, .int .i64 y.p.c, .int .i64 y.p.d, .int .i64 y.k] 23)).cells5
          refine bodyPost_ret (v := .tuple #[.agg #[.int .i64 0, .int .i64 0, .int .i64 0, .int .i64 0, .int .i64 0], .int .i64 4]) (by simp [results, Tryz.results25, go_sem, q0, q1, q2, q3, q4]) rfl ⟨Nm.zero, 4, rfl, Hs.out, ?_⟩
          exact (below_put5 hbw (Nat.le_refl _) _ _ _ _ _).alloc (by simp; omega) _
      · have Hs : Hid (sParse l = (Nm.zero, 4)) := by
          show _ = _
          unfold sParse
          rw [Hx2.out]
          dsimp only
          rw [if_neg]
          rw [accept_iff]
          rintro ⟨h1, _⟩
          exact h0 (Hn.out.symm.trans h1.1)
        have h0b : (n != 0) = true := by simpa using h0
        clear h0 Hx2 hX x0 x1 x2 x3 x4 xf
        obtain ⟨r0, r1, r2, r3, r4, rf⟩ := hR.cells5
        go_wp2_with fail
        refine bodyPost_ret (v := .tuple #[.agg #[.int .i64 0, .int .i64 0, .int .i64 0, .int .i64 0, .int .i64 0], .int .i64 4]) (by simp [results, Tryz.results25, go_sem, r0, r1, r2, r3, r4]) rfl ⟨Nm.zero, 4, rfl, Hs.out, ?_⟩
        exact below_put5 hbw (Nat.le_refl _) _ _ _ _ _
end Go.Proofs.YtepdnjjfhbjcjaaGreatDoor
end
section
namespace Go.Proofs.YtepdnjjfhbjcjaaGreatDoor
open Go.RowKit
def mkN (a b c d k : Int) : Nm := ⟨⟨a, b, c, d⟩, k⟩
def flatN (r : Nm × Int) : Int × Int × Int × Int × Int × Int := (r.1.p.a, r.1.p.b, r.1.p.c, r.1.p.d, r.1.k, r.2)
namespace Inj
def ring_Least.f (a0_0 a0_1 a0_2 a0_3 a0_4 : Int) : Option (Int × Int × Int × Int × Int × Int) := some (flatN (sLeast (mkN a0_0 a0_1 a0_2 a0_3 a0_4)))
theorem ring_Least.calls (a0_0 a0_1 a0_2 a0_3 a0_4 r1 r2 r3 r4 r5 r6 : Int) (w : World) (h : ring_Least.f a0_0 a0_1 a0_2 a0_3 a0_4 = some (r1, r2, r3, r4, r5, r6)) :
    Calls Tryz.prog 18 #[.agg #[.int .i64 a0_0, .int .i64 a0_1, .int .i64 a0_2, .int .i64 a0_3, .int .i64 a0_4]] w fun e w' => e = .returned (.tuple #[.agg #[.int .i64 r1, .int .i64 r2, .int .i64 r3, .int .i64 r4, .int .i64 r5], .int .i64 r6]) ∧ Below w.heap.size w w' := by
  refine (Least_calls (mkN a0_0 a0_1 a0_2 a0_3 a0_4) w).mono ?_
  rintro e w' ⟨y, er, rfl, hy, hb⟩
  have h2 : flatN (y, er) = (r1, r2, r3, r4, r5, r6) := by rw [← hy]; exact Option.some.inj h
  simp only [flatN, Prod.mk.injEq] at h2
  obtain ⟨rfl, rfl, rfl, rfl, rfl, rfl⟩ := h2
  exact ⟨rfl, hb⟩
def ring_Mul.f (a0_0 a0_1 a0_2 a0_3 a0_4 a1_0 a1_1 a1_2 a1_3 a1_4 : Int) : Option (Int × Int × Int × Int × Int × Int) := some (flatN (sMul (mkN a0_0 a0_1 a0_2 a0_3 a0_4) (mkN a1_0 a1_1 a1_2 a1_3 a1_4)))
theorem ring_Mul.calls (a0_0 a0_1 a0_2 a0_3 a0_4 a1_0 a1_1 a1_2 a1_3 a1_4 r1 r2 r3 r4 r5 r6 : Int) (w : World) (h : ring_Mul.f a0_0 a0_1 a0_2 a0_3 a0_4 a1_0 a1_1 a1_2 a1_3 a1_4 = some (r1, r2, r3, r4, r5, r6)) :
    Calls Tryz.prog 19 #[.agg #[.int .i64 a0_0, .int .i64 a0_1, .int .i64 a0_2, .int .i64 a0_3, .int .i64 a0_4], .agg #[.int .i64 a1_0, .int .i64 a1_1, .int .i64 a1_2, .int .i64 a1_3, .int .i64 a1_4]] w fun e w' => e = .returned (.tuple #[.agg #[.int .i64 r1, .int .i64 r2, .int .i64 r3, .int .i64 r4, .int .i64 r5], .int .i64 r6]) ∧ Below w.heap.size w w' := by
  refine (Mul_calls (mkN a0_0 a0_1 a0_2 a0_3 a0_4) (mkN a1_0 a1_1 a1_2 a1_3 a1_4) w).mono ?_
  rintro e w' ⟨y, er, rfl, hy, hb⟩
  have h2 : flatN (y, er) = (r1, r2, r3, r4, r5, r6) := by rw [← hy]; exact Option.some.inj h
  simp only [flatN, Prod.mk.injEq] at h2
  obtain ⟨rfl, rfl, rfl, rfl, rfl, rfl⟩ := h2
  exact ⟨rfl, hb⟩
def ring_Dot.f (a0_0 a0_1 a0_2 a0_3 a0_4 : Int) : Option (Int × Int × Int × Int × Int × Int) := some (flatN (sDot (mkN a0_0 a0_1 a0_2 a0_3 a0_4)))
theorem ring_Dot.calls (a0_0 a0_1 a0_2 a0_3 a0_4 r1 r2 r3 r4 r5 r6 : Int) (w : World) (h : ring_Dot.f a0_0 a0_1 a0_2 a0_3 a0_4 = some (r1, r2, r3, r4, r5, r6)) :
    Calls Tryz.prog 20 #[.agg #[.int .i64 a0_0, .int .i64 a0_1, .int .i64 a0_2, .int .i64 a0_3, .int .i64 a0_4]] w fun e w' => e = .returned (.tuple #[.agg #[.int .i64 r1, .int .i64 r2, .int .i64 r3, .int .i64 r4, .int .i64 r5], .int .i64 r6]) ∧ Below w.heap.size w w' := by
  refine (Dot_calls (mkN a0_0 a0_1 a0_2 a0_3 a0_4) w).mono ?_
  rintro e w' ⟨y, er, rfl, hy, hb⟩
  have h2 : flatN (y, er) = (r1, r2, r3, r4, r5, r6) := by rw [← hy]; exact Option.some.inj h
  simp only [flatN, Prod.mk.injEq] at h2
  obtain ⟨rfl, rfl, rfl, rfl, rfl, rfl⟩ := h2
  exact ⟨rfl, hb⟩
def ring_Norm.f (a0_0 a0_1 a0_2 a0_3 a0_4 : Int) : Option (Int × Int × Int × Int × Int × Int) := some (flatN (sNorm (mkN a0_0 a0_1 a0_2 a0_3 a0_4)))
theorem ring_Norm.calls (a0_0 a0_1 a0_2 a0_3 a0_4 r1 r2 r3 r4 r5 r6 : Int) (w : World) (h : ring_Norm.f a0_0 a0_1 a0_2 a0_3 a0_4 = some (r1, r2, r3, r4, r5, r6)) :
    Calls Tryz.prog 21 #[.agg #[.int .i64 a0_0, .int .i64 a0_1, .int .i64 a0_2, .int .i64 a0_3, .int .i64 a0_4]] w fun e w' => e = .returned (.tuple #[.agg #[.int .i64 r1, .int .i64 r2, .int .i64 r3, .int .i64 r4, .int .i64 r5], .int .i64 r6]) ∧ Below w.heap.size w w' := by
  refine (Norm_calls (mkN a0_0 a0_1 a0_2 a0_3 a0_4) w).mono ?_
  rintro e w' ⟨y, er, rfl, hy, hb⟩
  have h2 : flatN (y, er) = (r1, r2, r3, r4, r5, r6) := by rw [← hy]; exact Option.some.inj h
  simp only [flatN, Prod.mk.injEq] at h2
  obtain ⟨rfl, rfl, rfl, rfl, rfl, rfl⟩ := h2
  exact ⟨rfl, hb⟩
def ring_Divide.f (a0_0 a0_1 a0_2 a0_3 a0_4 a1_0 a1_1 a1_2 a1_3 a1_4 : Int) : Option (Int × Int × Int × Int × Int × Int) := some (flatN (sDivide (mkN a0_0 a0_1 a0_2 a0_3 a0_4) (mkN a1_0 a1_1 a1_2 a1_3 a1_4)))
theorem ring_Divide.calls (a0_0 a0_1 a0_2 a0_3 a0_4 a1_0 a1_1 a1_2 a1_3 a1_4 r1 r2 r3 r4 r5 r6 : Int) (w : World) (h : ring_Divide.f a0_0 a0_1 a0_2 a0_3 a0_4 a1_0 a1_1 a1_2 a1_3 a1_4 = some (r1, r2, r3, r4, r5, r6)) :
    Calls Tryz.prog 23 #[.agg #[.int .i64 a0_0, .int .i64 a0_1, .int .i64 a0_2, .int .i64 a0_3, .int .i64 a0_4], .agg #[.int .i64 a1_0, .int .i64 a1_1, .int .i64 a1_2, .int .i64 a1_3, .int .i64 a1_4]] w fun e w' => e = .returned (.tuple #[.agg #[.int .i64 r1, .int .i64 r2, .int .i64 r3, .int .i64 r4, .int .i64 r5], .int .i64 r6]) ∧ Below w.heap.size w w' := by
  refine (Divide_calls (mkN a0_0 a0_1 a0_2 a0_3 a0_4) (mkN a1_0 a1_1 a1_2 a1_3 a1_4) w).mono ?_
  rintro e w' ⟨y, er, rfl, hy, hb⟩
  have h2 : flatN (y, er) = (r1, r2, r3, r4, r5, r6) := by rw [← hy]; exact Option.some.inj h
  simp only [flatN, Prod.mk.injEq] at h2
  obtain ⟨rfl, rfl, rfl, rfl, rfl, rfl⟩ := h2
  exact ⟨rfl, hb⟩
def ring_Less.f (a0_0 a0_1 a0_2 a0_3 a0_4 a1_0 a1_1 a1_2 a1_3 a1_4 : Int) : Option (Bool × Int) := some (sLess (mkN a0_0 a0_1 a0_2 a0_3 a0_4) (mkN a1_0 a1_1 a1_2 a1_3 a1_4))
theorem ring_Less.calls (a0_0 a0_1 a0_2 a0_3 a0_4 a1_0 a1_1 a1_2 a1_3 a1_4 : Int) (r1 : Bool) (r2 : Int) (w : World) (h : ring_Less.f a0_0 a0_1 a0_2 a0_3 a0_4 a1_0 a1_1 a1_2 a1_3 a1_4 = some (r1, r2)) :
    Calls Tryz.prog 22 #[.agg #[.int .i64 a0_0, .int .i64 a0_1, .int .i64 a0_2, .int .i64 a0_3, .int .i64 a0_4], .agg #[.int .i64 a1_0, .int .i64 a1_1, .int .i64 a1_2, .int .i64 a1_3, .int .i64 a1_4]] w fun e w' => e = .returned (.tuple #[.bool r1, .int .i64 r2]) ∧ Below w.heap.size w w' := by
  refine (Less_calls (mkN a0_0 a0_1 a0_2 a0_3 a0_4) (mkN a1_0 a1_1 a1_2 a1_3 a1_4) w).mono ?_
  rintro e w' ⟨y, er, rfl, hy, hb⟩
  have h2 : (y, er) = (r1, r2) := by rw [← hy]; exact Option.some.inj h
  injection h2 with h3 h4
  subst h3 h4
  exact ⟨rfl, hb⟩
def ring_Phase.f (a0_0 a0_1 a0_2 a0_3 a0_4 a1_0 a1_1 a1_2 a1_3 a1_4 : Int) : Option (Int × Int) := some (sPhase (mkN a0_0 a0_1 a0_2 a0_3 a0_4) (mkN a1_0 a1_1 a1_2 a1_3 a1_4))
theorem ring_Phase.calls (a0_0 a0_1 a0_2 a0_3 a0_4 a1_0 a1_1 a1_2 a1_3 a1_4 r1 r2 : Int) (w : World) (h : ring_Phase.f a0_0 a0_1 a0_2 a0_3 a0_4 a1_0 a1_1 a1_2 a1_3 a1_4 = some (r1, r2)) :
    Calls Tryz.prog 24 #[.agg #[.int .i64 a0_0, .int .i64 a0_1, .int .i64 a0_2, .int .i64 a0_3, .int .i64 a0_4], .agg #[.int .i64 a1_0, .int .i64 a1_1, .int .i64 a1_2, .int .i64 a1_3, .int .i64 a1_4]] w fun e w' => e = .returned (.tuple #[.int .i64 r1, .int .i64 r2]) ∧ Below w.heap.size w w' := by
  refine (Phase_calls (mkN a0_0 a0_1 a0_2 a0_3 a0_4) (mkN a1_0 a1_1 a1_2 a1_3 a1_4) w).mono ?_
  rintro e w' ⟨y, er, rfl, hy, hb⟩
  have h2 : (y, er) = (r1, r2) := by rw [← hy]; exact Option.some.inj h
  injection h2 with h3 h4
  subst h3 h4
  exact ⟨rfl, hb⟩
def ring_Omega.f (a0 : Int) : Option (Int × Int × Int × Int × Int) := some ((omP (a0 % 8).toNat).a, (omP (a0 % 8).toNat).b, (omP (a0 % 8).toNat).c, (omP (a0 % 8).toNat).d, 0)
theorem ring_Omega.calls (a0 r1 r2 r3 r4 r5 : Int) (w : World) (h : ring_Omega.f a0 = some (r1, r2, r3, r4, r5)) :
    Calls Tryz.prog 12 #[.int .i64 a0] w fun e w' => e = .returned (.agg #[.int .i64 r1, .int .i64 r2, .int .i64 r3, .int .i64 r4, .int .i64 r5]) ∧ Below w.heap.size w w' := by
  have h2 := Option.some.inj h
  simp only [Prod.mk.injEq] at h2
  obtain ⟨rfl, rfl, rfl, rfl, rfl⟩ := h2
  exact Omega_calls a0 w
def ring_Print.f (a0_0 a0_1 a0_2 a0_3 a0_4 : Int) : Option (ByteArray × Int) := some (bs (sPrint (mkN a0_0 a0_1 a0_2 a0_3 a0_4)).1, (sPrint (mkN a0_0 a0_1 a0_2 a0_3 a0_4)).2)
theorem ring_Print.calls (a0_0 a0_1 a0_2 a0_3 a0_4 : Int) (r1 : ByteArray) (r2 : Int) (w : World) (h : ring_Print.f a0_0 a0_1 a0_2 a0_3 a0_4 = some (r1, r2)) (ht : Tabs w) :
    Calls Tryz.prog 16 #[.agg #[.int .i64 a0_0, .int .i64 a0_1, .int .i64 a0_2, .int .i64 a0_3, .int .i64 a0_4]] w fun e w' => e = .returned (.tuple #[.string r1, .int .i64 r2]) ∧ Below w.heap.size w w' := by
  refine (Print_calls (mkN a0_0 a0_1 a0_2 a0_3 a0_4) w ht).mono ?_
  rintro e w' ⟨s, er, rfl, hy, hb⟩
  have h2 : (bs s, er) = (r1, r2) := by have := Option.some.inj h; rw [hy] at this; exact this
  injection h2 with h3 h4
  subst h3 h4
  exact ⟨rfl, hb⟩
def ring_Parse.f (a0 : ByteArray) : Option (Int × Int × Int × Int × Int × Int) := if a0.size ≤ 1000 then some (flatN (sParse a0.data.toList)) else none
theorem ring_Parse.calls (a0 : ByteArray) (r1 r2 r3 r4 r5 r6 : Int) (w : World) (h : ring_Parse.f a0 = some (r1, r2, r3, r4, r5, r6)) (ht : Tabs w) :
    Calls Tryz.prog 25 #[.string a0] w fun e w' => e = .returned (.tuple #[.agg #[.int .i64 r1, .int .i64 r2, .int .i64 r3, .int .i64 r4, .int .i64 r5], .int .i64 r6]) ∧ Below w.heap.size w w' := by
  unfold ring_Parse.f at h
  split at h
  · rename_i hl
    have hl2 : a0.data.toList.length ≤ 1000 := by rw [Array.length_toList]; exact hl
    refine (Parse_calls a0.data.toList hl2 w ht).mono ?_
    rintro e w' ⟨y, er, rfl, hy, hb⟩
    have h2 : flatN (y, er) = (r1, r2, r3, r4, r5, r6) := by rw [← hy]; exact Option.some.inj h
    simp only [flatN, Prod.mk.injEq] at h2
    obtain ⟨rfl, rfl, rfl, rfl, rfl, rfl⟩ := h2
    exact ⟨rfl, hb⟩
  · cases h
end Inj
end Go.Proofs.YtepdnjjfhbjcjaaGreatDoor
end
