import Derived.Test.YtmlloonbommkhaaGreatDoorDParses8
import Derived.Test.YtmlloonbommkhaaGreatDoorDParses11
import Derived.Test.YtmlloonbommkhaaGreatDoorDParses17
import Derived.Test.YtmlloonbommkhaaGreatDoorDParses19
import Derived.Test.YtmlloonbommkhaaGreatDoorDParses20
set_option linter.all false
section
set_option linter.all false
namespace Go.Proofs.YtmlloonbommkhaaGreatDoor
open Go.RowKit
theorem long_yes (l : List UInt8) (h : (2000 < l.length ∧ l.length ≤ 65536) ∨ 65546 < l.length) (hl : l.length ≤ 140737488351232) (w : World) :
    Calls Tryz.prog 7 #[.string (bs l)] w fun e w' => e = .returned (.bool true) ∧ w = w' := by
  have hsz : (bs l).size = l.length := bs_size l
  rcases h with ⟨h1, h2⟩ | h1
  · have d1 : decide ((2000 : Int) < (l.length : Int)) = true := decide_eq_true (by omega)
    have d2 : decide ((l.length : Int) ≤ 65536) = true := decide_eq_true (by omega)
    go_enter Tryz.func7, Tryz.ntmps7
    go_wp2_with fail
    go_ret
    exact ⟨rfl, rfl⟩
  · have d1 : decide ((2000 : Int) < (l.length : Int)) = true := decide_eq_true (by omega)
    have d2 : decide ((l.length : Int) ≤ 65536) = false := decide_eq_false (by omega)
    have d3 : decide ((65546 : Int) < (l.length : Int)) = true := decide_eq_true (by omega)
    go_enter Tryz.func7, Tryz.ntmps7
    go_wp2_with fail
    go_ret
    exact ⟨rfl, rfl⟩
theorem long_no (l : List UInt8) (h : ¬ ((2000 < l.length ∧ l.length ≤ 65536) ∨ 65546 < l.length)) (w : World) :
    Calls Tryz.prog 7 #[.string (bs l)] w fun e w' => e = .returned (.bool false) ∧ w = w' := by
  have hsz : (bs l).size = l.length := bs_size l
  by_cases h1 : l.length ≤ 2000
  · have d1 : decide ((2000 : Int) < (l.length : Int)) = false := decide_eq_false (by omega)
    have d3 : decide ((65546 : Int) < (l.length : Int)) = false := decide_eq_false (by omega)
    go_enter Tryz.func7, Tryz.ntmps7
    go_wp2_with fail
    go_ret
    exact ⟨rfl, rfl⟩
  · have d1 : decide ((2000 : Int) < (l.length : Int)) = true := decide_eq_true (by omega)
    have d2 : decide ((l.length : Int) ≤ 65536) = false := decide_eq_false (by omega)
    have d3 : decide ((65546 : Int) < (l.length : Int)) = false := decide_eq_false (by omega)
    go_enter Tryz.func7, Tryz.ntmps7
    go_wp2_with fail
    go_ret
    exact ⟨rfl, rfl⟩
end Go.Proofs.YtmlloonbommkhaaGreatDoor
end
section
set_option linter.all false
namespace Go.Proofs.YtmlloonbommkhaaGreatDoor
open Go.RowKit
theorem sRead_ok {l : List UInt8} (h : (sRead l).2.2.2 = 0) : chkC (sRead l).1 = 0 ∧ (sRead l).2.2.1 = 0 := by
  unfold sRead at h ⊢
  dsimp only at h ⊢
  split at h
  · have h : (11 : Int) = 0 := h
    omega
  · rename_i h1
    rw [if_neg h1]
    split at h
    · have h : (4 : Int) = 0 := h
      omega
    · rename_i h2
      rw [if_neg h2]
      split at h
      · rename_i h3; exact absurd h h3
      · rename_i h3
        rw [if_neg h3]
        exact ⟨Classical.not_not.1 h3, rfl⟩
theorem sTidy_ok {l : List UInt8} (h : (sRead l).2.2.2 = 0) : sTidy l = (printP (sRead l).1, 0, 0) := by
  have h2 := (sRead_ok h).1
  unfold sTidy sPrint
  rw [if_pos h, if_pos h2]
theorem sTidy_no {l : List UInt8} (h : (sRead l).2.2.2 ≠ 0) : sTidy l = ([], (sRead l).2.2.1, (sRead l).2.2.2) := by
  unfold sTidy
  rw [if_neg h]
set_option maxRecDepth 100000 in
set_option maxHeartbeats 8000000 in
theorem TextParses_ok (l : List UInt8) (hl : l.length ≤ 140737488351232) (w : World) (ht : Tabs w) :
    Calls Tryz.prog 5 #[.string (bs l)] w fun e w' => e = .returned (.bool true) ∧ Below w.heap.size w w' := by
  have HA := Lib.hid awake_calls
  have HT := Lib.hid ht
  clear ht
  by_cases hlong : (2000 < l.length ∧ l.length ≤ 65536) ∨ 65546 < l.length
  · have HL := Lib.hid (long_yes l hlong hl)
    go_enter Tryz.func5, Tryz.ntmps5
    go_wp2_with fail
    refine (HL.out _).mono ?_
    rintro e w' ⟨rfl, rfl⟩
    go_wp2_with fail
    refine (HA.out _ HT.out).mono ?_
    rintro e w1 ⟨rfl, hb⟩
    go_wp2_with fail
    go_ret
    exact ⟨rfl, hb⟩
  · have HL := Lib.hid (long_no l hlong)
    have hl3 : l.length ≤ 1000000 := by omega
    have HR := Lib.hid (fun W => refParse_calls l hl3 W)
    have HP := Lib.hid (fun W (h : Tabs W) => Parse_calls l hl3 W h)
    have HD := Lib.hid (fun W (h : Tabs W) => Tidy_calls l hl3 W h)
    have H1 := Lib.hid (sRead_ok (l := l))
    have H2 := Lib.hid (sRead_wires (l := l))
    have H3 := Lib.hid (sTidy_ok (l := l))
    have H4 := Lib.hid (sTidy_no (l := l))
    obtain ⟨⟨⟨W, Bt, G⟩, sp, at_, er⟩, HS⟩ : ∃ r, Hid (sRead l = r) := ⟨_, rfl⟩
    rw [HS.out] at HR HP H1 H2 H3 H4
    unfold RpPost at HR
    unfold PsPost at HP
    dsimp only at HR HP H1 H2 H3 H4
    clear HS hlong hl3
    have eW : (W == W) = true := beq_self_eq_true _
    have eat : (at_ == at_) = true := beq_self_eq_true _
    have eer : (er == er) = true := beq_self_eq_true _
    by_cases he : er = 0
    · subst he
      obtain ⟨hchk, rfl⟩ := H1.out rfl
      rw [H3.out rfl] at HD
      dsimp only at HD
      have HPr := Lib.hid (fun gv B W' hB hv => refPrint_calls W Bt gv G B W' hB hv hchk)
      generalize printP ⟨W, Bt, G⟩ = pr at *
      have ep : ((bs pr).toList == (bs pr).toList) = true := beq_self_eq_true _
      clear H3 H4 H1 hchk
      go_enter Tryz.func5, Tryz.ntmps5
      go_wp2_with fail
      refine (HL.out _).mono ?_
      rintro e w' ⟨rfl, rfl⟩
      go_wp2_with fail
      refine (HR.out _).mono ?_
      rintro e w1 ⟨gv, sv, gw, rfl, hg, hG, hsp, hb1⟩
      have k1 := hG.gates
      rw [hg] at k1
      obtain ⟨A2, c2, rfl⟩ := own_form hsp
      obtain ⟨A, c, rfl, _⟩ := k1.form
      clear hg hG hsp
      have hbx := below1 w1 (.cells #[.int .i64 W, .int .i64 Bt, .slice A G.length c] 43)
      have hx := Blk.new w1 43 #[.int .i64 W, .int .i64 Bt, .slice A G.length c]
      have hb2 := bt hbx hb1 hb1.size
      have k2 := k1.below hbx
      dsimp only
      have hz1 : w1.heap.size < (w1.alloc (.cells #[.int .i64 W, .int .i64 Bt, .slice A G.length c] 43)).heap.size := by simp
      clear hb1 k1 hbx
      go_upto_region 5 with fail
      generalize w1.alloc (.cells #[.int .i64 W, .int .i64 Bt, .slice A G.length c] 43) = wa at *
      generalize w1.heap.size = n1 at *
      have x0 := hx.cell 0
      have x1 := hx.cell 1
      have x2 := hx.cell 2
      have xf := hx.frozen
      simp at x0 x1 x2
      go_wp2_with fail
      with_reducible refine (HPr.out _ n1 _ (by omega) k2).mono ?_
      rintro e w2 ⟨rfl, hb3⟩
      have hx := hx.below hb3 hx.lt
      have k3 := k2.below (hb3.mono (by omega))
      have hb4 := bt hb3 hb2 hb2.size
      have hz2 := hb3.size
      clear x0 x1 x2 xf k2 hb2 hb3
      go_wp2_with fail
      with_reducible refine (HP.out _ (HT.out.below hb4)).mono ?_
      rintro e w3 ⟨gv3, gw3, rfl, hg3, hG3, hb5⟩
      have m1 := hG3.gates
      rw [hg3] at m1
      obtain ⟨A3, c3, rfl, _⟩ := m1.form
      have hx := hx.below hb5 hx.lt
      have k4 := k3.below (hb5.mono (by omega))
      have hb6 := bt hb5 hb4 hb4.size
      have hz3 := hb5.size
      have hby := below1 w3 (.cells #[.int .i64 W, .int .i64 Bt, .slice A3 G.length c3] 43)
      have hy := Blk.new w3 43 #[.int .i64 W, .int .i64 Bt, .slice A3 G.length c3]
      have hx := hx.below hby hx.lt
      have k5 := k4.below (hby.mono (by omega))
      have m2 := m1.below hby
      have hb7 := bt hby hb6 hb6.size
      have hz4 : w3.heap.size < (w3.alloc (.cells #[.int .i64 W, .int .i64 Bt, .slice A3 G.length c3] 43)).heap.size := by simp
      clear hg3 hG3 hb4 hb5 hb6 k3 k4 m1 hby
      go_upto_region 8 with fail
      generalize w3.alloc (.cells #[.int .i64 W, .int .i64 Bt, .slice A3 G.length c3] 43) = wb at *
      generalize w3.heap.size = n3 at *
      go_wp2_with fail
      with_reducible refine (HD.out _ (HT.out.below hb7)).mono ?_
      rintro e w4 ⟨rfl, hb8⟩
      have hx := hx.below hb8 hx.lt
      have hy := hy.below hb8 hy.lt
      have k6 := k5.below (hb8.mono (by omega))
      have m3 := m2.below (hb8.mono (by omega))
      have hb9 := bt hb8 hb7 hb7.size
      have hz5 := hb8.size
      have HSm := Lib.hid (Same_same W Bt G _ _ n3 w4 (by omega) m3 (k6.more (by omega)) (fun g hg => Nat.le_trans (H2.out g hg) (by decide)))
      clear hb7 hb8 k5 m2 k6 m3
      have x0 := hx.cell 0
      have x1 := hx.cell 1
      have x2 := hx.cell 2
      have xf := hx.frozen
      have y0 := hy.cell 0
      have y1 := hy.cell 1
      have y2 := hy.cell 2
      have yf := hy.frozen
      simp at x0 x1 x2 y0 y1 y2
      go_wp2_with fail
      with_reducible refine HSm.out.mono ?_
      rintro e w5 ⟨rfl, hb10⟩
      have hb11 := bt hb10 hb9 hb9.size
      go_wp2_with fail
      with_reducible refine (HA.out _ (HT.out.below hb11)).mono ?_
      rintro e w6 ⟨rfl, hb12⟩
      go_wp2_with fail
      go_ret
      exact ⟨rfl, bt hb12 hb11 hb11.size⟩
    · rw [H4.out he] at HD
      dsimp only at HD
      have he0 : (er == 0) = false := by simpa using he
      clear H3 H4 H1 he
      go_enter Tryz.func5, Tryz.ntmps5
      go_wp2_with fail
      refine (HL.out _).mono ?_
      rintro e w' ⟨rfl, rfl⟩
      go_wp2_with fail
      refine (HR.out _).mono ?_
      rintro e w1 ⟨gv, sv, gw, rfl, hg, hG, hsp, hb1⟩
      have k1 := hG.gates
      rw [hg] at k1
      obtain ⟨A2, c2, rfl⟩ := own_form hsp
      obtain ⟨A, c, rfl, _⟩ := k1.form
      clear hg hG hsp
      have hbx := below1 w1 (.cells #[.int .i64 W, .int .i64 Bt, .slice A G.length c] 43)
      have hx := Blk.new w1 43 #[.int .i64 W, .int .i64 Bt, .slice A G.length c]
      have hb2 := bt hbx hb1 hb1.size
      have k2 := k1.below hbx
      dsimp only
      have hz1 : w1.heap.size < (w1.alloc (.cells #[.int .i64 W, .int .i64 Bt, .slice A G.length c] 43)).heap.size := by simp
      clear hb1 k1 hbx
      go_upto_region 5 with fail
      generalize w1.alloc (.cells #[.int .i64 W, .int .i64 Bt, .slice A G.length c] 43) = wa at *
      generalize w1.heap.size = n1 at *
      go_wp2_with fail
      with_reducible refine (HP.out _ (HT.out.below hb2)).mono ?_
      rintro e w3 ⟨gv3, gw3, rfl, hg3, hG3, hb5⟩
      have m1 := hG3.gates
      rw [hg3] at m1
      obtain ⟨A3, c3, rfl, _⟩ := m1.form
      have hx := hx.below hb5 hx.lt
      have k4 := k2.below (hb5.mono (by omega))
      have hb6 := bt hb5 hb2 hb2.size
      have hz3 := hb5.size
      have hby := below1 w3 (.cells #[.int .i64 W, .int .i64 Bt, .slice A3 G.length c3] 43)
      have hy := Blk.new w3 43 #[.int .i64 W, .int .i64 Bt, .slice A3 G.length c3]
      have hx := hx.below hby hx.lt
      have k5 := k4.below (hby.mono (by omega))
      have m2 := m1.below hby
      have hb7 := bt hby hb6 hb6.size
      have hz4 : w3.heap.size < (w3.alloc (.cells #[.int .i64 W, .int .i64 Bt, .slice A3 G.length c3] 43)).heap.size := by simp
      clear hg3 hG3 hb2 hb5 hb6 k2 k4 m1 hby
      go_upto_region 8 with fail
      generalize w3.alloc (.cells #[.int .i64 W, .int .i64 Bt, .slice A3 G.length c3] 43) = wb at *
      generalize w3.heap.size = n3 at *
      go_wp2_with fail
      with_reducible refine (HD.out _ (HT.out.below hb7)).mono ?_
      rintro e w4 ⟨rfl, hb8⟩
      have hx := hx.below hb8 hx.lt
      have hy := hy.below hb8 hy.lt
      have k6 := k5.below (hb8.mono (by omega))
      have m3 := m2.below (hb8.mono (by omega))
      have hb9 := bt hb8 hb7 hb7.size
      have hz5 := hb8.size
      have HSm := Lib.hid (Same_same W Bt G _ _ n3 w4 (by omega) m3 (k6.more (by omega)) (fun g hg => Nat.le_trans (H2.out g hg) (by decide)))
      clear hb7 hb8 k5 m2 k6 m3
      have x0 := hx.cell 0
      have x1 := hx.cell 1
      have x2 := hx.cell 2
      have xf := hx.frozen
      have y0 := hy.cell 0
      have y1 := hy.cell 1
      have y2 := hy.cell 2
      have yf := hy.frozen
      simp at x0 x1 x2 y0 y1 y2
      have es : (bs ([] : List UInt8)).toList = [] := toList_ne []
      go_wp2_with fail
      with_reducible refine HSm.out.mono ?_
      rintro e w5 ⟨rfl, hb10⟩
      have hb11 := bt hb10 hb9 hb9.size
      go_wp2_with fail
      with_reducible refine (HA.out _ (HT.out.below hb11)).mono ?_
      rintro e w6 ⟨rfl, hb12⟩
      go_wp2_with fail
      go_ret
      exact ⟨rfl, bt hb12 hb11 hb11.size⟩
end Go.Proofs.YtmlloonbommkhaaGreatDoor
end
