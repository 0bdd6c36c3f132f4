import Derived.Test.YtmlloonbommkhaaGreatDoorDChanges11
import Derived.Test.YtmlloonbommkhaaGreatDoorDChanges17
import Derived.Test.YtmlloonbommkhaaGreatDoorDChanges19
set_option linter.all false
section
set_option linter.all false
namespace Go.Proofs.YtmlloonbommkhaaGreatDoor
open Go.RowKit
theorem long_yes (l : List UInt8) (h : (2000 < l.length ∧ l.length ≤ 65536) ∨ 65546 < l.length) (hl : l.length ≤ 140737488351232) (w : World) :
    Calls Tryz.prog 7 #[.string (bs l)] w fun e w' => e = .returned (.bool true) ∧ w = w' := by
  have hsz : (bs l).size = l.length := bs_size l
  rcases h with ⟨h1, h2⟩ | h1
  · have d1 : decide ((2000 : Int) < (l.length : Int)) = true := decide_eq_true (by omega)
    have d2 : decide ((l.length : Int) ≤ 65536) = true := decide_eq_true (by omega)
    go_enter Tryz.func7, Tryz.ntmps7
    go_wp2_with fail
    go_ret
    exact ⟨rfl, rfl⟩
  · have d1 : decide ((2000 : Int) < (l.length : Int)) = true := decide_eq_true (by omega)
    have d2 : decide ((l.length : Int) ≤ 65536) = false := decide_eq_false (by omega)
    have d3 : decide ((65546 : Int) < (l.length : Int)) = true := decide_eq_true (by omega)
    go_enter Tryz.func7, Tryz.ntmps7
    go_wp2_with fail
    go_ret
    exact ⟨rfl, rfl⟩
theorem long_no (l : List UInt8) (h : ¬ ((2000 < l.length ∧ l.length ≤ 65536) ∨ 65546 < l.length)) (w : World) :
    Calls Tryz.prog 7 #[.string (bs l)] w fun e w' => e = .returned (.bool false) ∧ w = w' := by
  have hsz : (bs l).size = l.length := bs_size l
  by_cases h1 : l.length ≤ 2000
  · have d1 : decide ((2000 : Int) < (l.length : Int)) = false := decide_eq_false (by omega)
    have d3 : decide ((65546 : Int) < (l.length : Int)) = false := decide_eq_false (by omega)
    go_enter Tryz.func7, Tryz.ntmps7
    go_wp2_with fail
    go_ret
    exact ⟨rfl, rfl⟩
  · have d1 : decide ((2000 : Int) < (l.length : Int)) = true := decide_eq_true (by omega)
    have d2 : decide ((l.length : Int) ≤ 65536) = false := decide_eq_false (by omega)
    have d3 : decide ((65546 : Int) < (l.length : Int)) = false := decide_eq_false (by omega)
    go_enter Tryz.func7, Tryz.ntmps7
    go_wp2_with fail
    go_ret
    exact ⟨rfl, rfl⟩
end Go.Proofs.YtmlloonbommkhaaGreatDoor
end
section
set_option linter.all false
namespace Go.Proofs.YtmlloonbommkhaaGreatDoor
open Go.RowKit
set_option maxRecDepth 100000 in
set_option maxHeartbeats 8000000 in
theorem TextChanges_ok (l u : List UInt8) (hl : l.length ≤ 140737488351232) (hu : u.length ≤ 140737488351232) (gate at_ : Int) (w : World) (ht : Tabs w) :
    Calls Tryz.prog 4 #[.string (bs l), .string (bs u), .int .i64 gate, .int .i64 at_] w fun e w' => e = .returned (.bool true) ∧ Below w.heap.size w w' := by
  have HA := Lib.hid awake_calls
  have HT := Lib.hid ht
  clear ht
  by_cases hlong : (2000 < l.length ∧ l.length ≤ 65536) ∨ 65546 < l.length
  · have HL := Lib.hid (long_yes l hlong hl)
    go_enter Tryz.func4, Tryz.ntmps4
    go_wp2_with fail
    refine (HL.out _).mono ?_
    rintro e w' ⟨rfl, rfl⟩
    go_wp2_with fail
    refine (HA.out _ HT.out).mono ?_
    rintro e w1 ⟨rfl, hb⟩
    go_wp2_with fail
    go_ret
    exact ⟨rfl, hb⟩
  · have HL := Lib.hid (long_no l hlong)
    by_cases ulong : (2000 < u.length ∧ u.length ≤ 65536) ∨ 65546 < u.length
    · have HU := Lib.hid (long_yes u ulong hu)
      go_enter Tryz.func4, Tryz.ntmps4
      go_wp2_with fail
      refine (HL.out _).mono ?_
      rintro e w' ⟨rfl, rfl⟩
      go_wp2_with fail
      refine (HU.out _).mono ?_
      rintro e w' ⟨rfl, rfl⟩
      go_wp2_with fail
      refine (HA.out _ HT.out).mono ?_
      rintro e w1 ⟨rfl, hb⟩
      go_wp2_with fail
      go_ret
      exact ⟨rfl, hb⟩
    · have HU := Lib.hid (long_no u ulong)
      have hl2 : l.length ≤ 200000 := by omega
      have hu2 : u.length ≤ 200000 := by omega
      have hl3 : l.length ≤ 1000000 := by omega
      have R1 := Lib.hid (fun W => refWhere_calls l hl3 gate W)
      have R2 := Lib.hid (fun W => refPut_calls l u hl2 hu2 gate W)
      have R3 := Lib.hid (fun W => refInsert_calls l u hl2 hu2 gate W)
      have R4 := Lib.hid (fun W => refPlace_calls l hl3 at_ W)
      have P1 := Lib.hid (fun W (h : Tabs W) => Where_calls l hl3 gate W h)
      have P2 := Lib.hid (fun W (h : Tabs W) => Put_calls l u hl2 hu2 gate W h)
      have P3 := Lib.hid (fun W (h : Tabs W) => Insert_calls l u hl2 hu2 gate W h)
      have P4 := Lib.hid (fun W => Place_calls l hl3 at_ W)
      obtain ⟨⟨a1, a2, a3⟩, H1⟩ : ∃ r, Hid (sWhere l gate = r) := ⟨_, rfl⟩
      obtain ⟨⟨b1, b2⟩, H2⟩ : ∃ r, Hid (sPut l gate u = r) := ⟨_, rfl⟩
      obtain ⟨⟨c1, c2⟩, H3⟩ : ∃ r, Hid (sInsert l gate u = r) := ⟨_, rfl⟩
      obtain ⟨⟨d1, d2, d3⟩, H4⟩ : ∃ r, Hid (sPlace l at_ = r) := ⟨_, rfl⟩
      rw [H1.out] at R1 P1
      rw [H2.out] at R2 P2
      rw [H3.out] at R3 P3
      rw [H4.out] at R4 P4
      dsimp only at R1 R2 R3 R4 P1 P2 P3 P4
      clear H1 H2 H3 H4 hlong ulong hl2 hu2 hl3
      have ea1 : (a1 == a1) = true := beq_self_eq_true _
      have ea2 : (a2 == a2) = true := beq_self_eq_true _
      have ea3 : (a3 == a3) = true := beq_self_eq_true _
      have eb1 : ((bs b1).toList == (bs b1).toList) = true := beq_self_eq_true _
      have eb2 : (b2 == b2) = true := beq_self_eq_true _
      have ec1 : ((bs c1).toList == (bs c1).toList) = true := beq_self_eq_true _
      have ec2 : (c2 == c2) = true := beq_self_eq_true _
      have ed1 : (d1 == d1) = true := beq_self_eq_true _
      have ed2 : (d2 == d2) = true := beq_self_eq_true _
      have ed3 : (d3 == d3) = true := beq_self_eq_true _
      go_enter Tryz.func4, Tryz.ntmps4
      go_wp2_with fail
      refine (HL.out _).mono ?_
      rintro e w' ⟨rfl, rfl⟩
      go_wp2_with fail
      refine (HU.out _).mono ?_
      rintro e w' ⟨rfl, rfl⟩
      go_wp2_with fail
      refine (R1.out _).mono ?_
      rintro e w1 ⟨rfl, k1⟩
      go_wp2_with fail
      refine (R2.out _).mono ?_
      rintro e w2 ⟨rfl, k2⟩
      have k2 := bt k2 k1 k1.size
      clear k1
      go_wp2_with fail
      refine (R3.out _).mono ?_
      rintro e w3 ⟨rfl, k3⟩
      have k3 := bt k3 k2 k2.size
      clear k2
      go_wp2_with fail
      refine (R4.out _).mono ?_
      rintro e w4 ⟨rfl, k4⟩
      have k4 := bt k4 k3 k3.size
      clear k3
      go_wp2_with fail
      refine (P1.out _ (HT.out.below k4)).mono ?_
      rintro e w5 ⟨rfl, k5⟩
      have k5 := bt k5 k4 k4.size
      clear k4
      go_wp2_with fail
      refine (P2.out _ (HT.out.below k5)).mono ?_
      rintro e w6 ⟨rfl, k6⟩
      have k6 := bt k6 k5 k5.size
      clear k5
      go_wp2_with fail
      refine (P3.out _ (HT.out.below k6)).mono ?_
      rintro e w7 ⟨rfl, k7⟩
      have k7 := bt k7 k6 k6.size
      clear k6
      go_wp2_with fail
      refine (P4.out _).mono ?_
      rintro e w8 ⟨rfl, k8⟩
      have k8 := bt k8 k7 k7.size
      clear k7
      go_wp2_with fail
      refine (HA.out _ (HT.out.below k8)).mono ?_
      rintro e w9 ⟨rfl, k9⟩
      go_wp2_with fail
      go_ret
      exact ⟨rfl, bt k9 k8 k8.size⟩
end Go.Proofs.YtmlloonbommkhaaGreatDoor
end
