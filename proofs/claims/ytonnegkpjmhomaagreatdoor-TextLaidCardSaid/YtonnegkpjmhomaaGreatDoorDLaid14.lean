import Derived.OwnWalk
import Derived.Laws.CopyOwn
import Derived.Deep.RegionLaw
import Derived.Deep.RegionHeld3
import Derived.Test.YtonnegkpjmhomaaGreatDoorDLaid5
import Derived.Test.YtonnegkpjmhomaaGreatDoorDLaid8
set_option linter.all false
section
set_option linter.all false
namespace Go.Proofs.YtonnegkpjmhomaaGreatDoor
open Go.RowKit
theorem infoI : (Tryz.prog.info? 3).map (fun i => (i.zero, i.size, i.bytes)) = some (some (.int .i64 0), 1, 8) := by kernel_rfl
theorem info1 : (Tryz.prog.info? 3).map (·.size) = some 1 := by kernel_rfl
theorem splice_rep (x z : Value) (n m k : Nat) (h : m + k ≤ n) : splice (List.replicate m x ++ List.replicate (n - m) z) m (List.replicate k x) = List.replicate (m + k) x ++ List.replicate (n - (m + k)) z := by
  unfold splice
  rw [List.take_left' (by simp), List.length_replicate, List.drop_append, List.drop_replicate, List.length_replicate, List.drop_replicate, show m - (m + k) = 0 by omega, show n - m - (m + k - m) = n - (m + k) by omega]
  rw [← List.append_assoc, ← List.append_assoc, List.replicate_append_replicate]
  simp
theorem rep_get {x : Value} {m j : Nat} {v : Value} (h : (List.replicate m x)[j]? = some v) : v = x ∧ j < m := by
  rw [List.getElem?_replicate] at h
  split at h
  · exact ⟨(Option.some.inj h).symm, by assumption⟩
  · cases h
set_option maxRecDepth 100000 in
set_option maxHeartbeats 4000000 in
theorem RepInt_calls (x : Int) (n : Nat) (b o c : Nat) (w : World) (hn : n ≤ 100000) (hx : w.cell? ⟨b, o, none⟩ = some (.int .i64 x)) :
    Calls Tryz.prog 29 #[.slice (some ⟨b, o, none⟩) 1 c, .int .i64 n] w fun e w' => ∃ v, e = .returned v ∧ w'.ownsRow w.heap.size 3 1 v n (List.replicate n (.int .i64 x)) ∧ Below w.heap.size w w' := by
  have hbl : b < w.heap.size := World.block_lt_of_cell? w _ hx
  obtain ⟨i0, hi, hz0, hz1, hz2⟩ := info_parts infoI
  have hn0 : (0 : Int) ≤ (n : Int) := by omega
  have hM : ∀ W : World, Calls Tryz.prog 63 #[.int .u64 1, .int .u64 n] W fun e W' => e = .returned (.tuple #[.int .u64 0, .int .u64 n]) ∧ W' = W := by
    intro W
    have h := Tryz.bits_Mul 1 n (by omega) (by omega) W
    rw [show 1 * n / 18446744073709551616 = 0 by rw [Nat.one_mul]; exact Nat.div_eq_of_lt (by omega), show 1 * n % 18446744073709551616 = n by rw [Nat.one_mul]; exact Nat.mod_eq_of_lt (by omega)] at h
    exact h
  have HM := Lib.hid hM
  have Hn := Lib.hid hn
  have HX := Lib.hid hx
  have hnb : decide (9223372036854775807 < (n : Int)) = false := decide_eq_false (by omega)
  clear hM hx
  go_enter Tryz.func29, Tryz.ntmps29
  go_wp2_with fail
  refine (HM.out _).mono ?_
  rintro e w' ⟨rfl, rfl⟩
  go_wp2_with (with_reducible refine wpList_make_full _ rfl _ _ 30 rfl w'.heap.size 3 i0 (.int .i64 0) 1 Tryz.underlying30 hi hz0 hz1 .i64 .i64 _ _ n rfl rfl rfl rfl ?a1 ?a2 (Nat.le_refl _) ?_)
  case a1 => rw [hz2]; have := Hn.out; omega
  case a2 => have := Hn.out; unfold maxLen; omega
  intro w1 hown hgrow
  have hb : Below w'.heap.size w' w1 := (Below.refl _ _).grown hgrow (by simp) (by simp)
  have hblk : Blk w1 w'.heap.size 3 (List.replicate n (Value.int .i64 0)).toArray := by
    rcases hown.2 with ⟨h, _⟩ | ⟨g, cap, cur, h, _, hg, _, _, hs, ht⟩
    · cases h
    · injection h with h1 _ h2
      injection h1 with h1
      injection h1 with h1
      subst h1 h2
      have e : cur.toList = List.replicate n (Value.int .i64 0) := by
        rw [List.take_of_length_le (by rw [Array.length_toList]; omega)] at ht
        rw [ht]
        exact toList_madeCells_one (Value.int .i64 0) n
      show _ = _
      rw [hg, ← e]
  have HX1 : Hid (w1.cell? ⟨b, o, none⟩ = some (.int .i64 x)) := (hb.cell (p := ⟨b, o, none⟩) hbl).trans HX.out
  clear hown hgrow HX
  obtain ⟨m0, hm0, hm1, hm2, hm3⟩ : ∃ m0 : Nat, Hid (m0 = Nat.min 1 n) ∧ m0 ≤ n ∧ (0 < n → 1 ≤ m0) ∧ m0 ≤ 1 := ⟨Nat.min 1 n, rfl, Nat.min_le_right _ _, fun h => Nat.le_min.2 ⟨Nat.le_refl _, h⟩, Nat.min_le_left _ _⟩
  go_wp2_with (refine wpList_copy_splice rfl (.tmp 31) (.tmp 32) 30 30 rfl 3 Tryz.underlying30 info1 _ _ _ _ _ _ rfl rfl w'.heap.size 0 (List.replicate n (Value.int .i64 0)) 3 hblk (List.replicate m0 (.int .i64 x)) ?b1 ?b2 ?b3 ?b4 w'.heap.size w' hb (Nat.le_refl _) ?_)
  case b1 => rw [List.length_replicate]; exact hm0.out
  case b2 =>
    intro _ j v hj
    obtain ⟨rfl, hj⟩ := rep_get hj
    obtain rfl : j = 0 := by omega
    exact HX1.out
  case b3 => simp; exact hm1
  case b4 => intro v hv; rw [List.eq_of_mem_replicate hv]; rfl
  intro w2 hg2 hb2
  have hblk2 : Blk w2 w'.heap.size 3 (List.replicate m0 (Value.int .i64 x) ++ List.replicate (n - m0) (Value.int .i64 0)).toArray := by
    have h := splice_rep (.int .i64 x) (.int .i64 0) n 0 m0 (by omega)
    simp only [List.replicate_zero, List.nil_append, Nat.sub_zero, Nat.zero_add] at h
    have h2 := hg2.out
    rw [h] at h2
    exact h2
  clear hg2 hblk hb
  clear hm0 HX1 hbl HM
  go_wp2_with fail
  go_loopg [8] (n - m0) (fun gk s8 wr => ∃ m : Nat, s8 = .int .i64 m ∧ m ≤ n ∧ (0 < n → 1 ≤ m) ∧ n - m ≤ gk ∧ Blk wr w'.heap.size 3 (List.replicate m (Value.int .i64 x) ++ List.replicate (n - m) (Value.int .i64 0)).toArray ∧ Below w'.heap.size w' wr)
  case atStart => exact ⟨m0, rfl, hm1, hm2, Nat.le_refl _, hblk2, hb2⟩
  case round =>
    clear hm1 hm2 hm3 hblk2 hb2
    obtain ⟨m, rfl, hm1, hm2, hgk, hblk, hb⟩ := hrel
    by_cases hlt : m < n
    · have hm0 : 1 ≤ m := hm2 (by omega)
      clear hm2
      obtain ⟨k, hk, hk1, hk2⟩ : ∃ k : Nat, Hid (k = Nat.min m (n - m)) ∧ 1 ≤ k ∧ m + k ≤ n := ⟨Nat.min m (n - m), rfl, Nat.le_min.2 ⟨hm0, by omega⟩, by have := Nat.min_le_right m (n - m); show m + min m (n - m) ≤ n; omega⟩
      have Hb := Lib.hid hblk
      have HB := Lib.hid hb
      obtain ⟨g1, rfl⟩ : ∃ g1, gk = g1 + 1 := ⟨gk - 1, by omega⟩
      have hnm : ¬ n = m := by omega
      have i1 : (m : Int) ≤ (n : Int) := by omega
      have hwk : IntKind.i64.wrap ((m : Int) + (k : Int)) = (m : Int) + (k : Int) := IntWalk.i64_in _ (by omega)
      have i2 : (0 : Int) ≤ (m : Int) := by omega
      have i3 : (m : Int) < (n : Int) := by omega
      have HC : Hid (∀ (j : Nat) (v : Value), (List.replicate k (Value.int .i64 x))[j]? = some v → wr.drew.cell? ((⟨w'.heap.size, 0, none⟩ : Addr).add j) = some v) := by
        intro j v hj
        obtain ⟨rfl, hj⟩ := rep_get hj
        have hkm : k ≤ m := by rw [hk.out]; exact Nat.min_le_left _ _
        have e : (⟨w'.heap.size, 0, none⟩ : Addr).add j = ⟨w'.heap.size, j, none⟩ := by
          unfold Addr.add
          by_cases h : j = 0 <;> simp [h]
        rw [e]
        refine (hblk.drew.cell j).trans ?_
        rw [List.getElem?_toArray, List.getElem?_append_left (by simp; omega), List.getElem?_replicate, if_pos (by omega)]
      clear hblk hb
      go_wp2_with fail
      go_region_held3 (fun _ => True) (trivial) ((refine step_copy_splice rfl (.tmp 41) (.tmp 44) 30 30 rfl 3 Tryz.underlying30 info1 _ _ _ _ _ _ rfl rfl w'.heap.size m (List.replicate m (Value.int .i64 x) ++ List.replicate (n - m) (Value.int .i64 0)) 3 Hb.out (List.replicate k (.int .i64 x)) (by rw [List.length_replicate]; exact hk.out) (fun _ => ⟨rfl, _, rfl, fun j v hj => HC.out j v hj⟩) (by simp; omega) (fun v hv => by rw [List.eq_of_mem_replicate hv]; rfl) w'.heap.size w' HB.out.drew (Nat.le_refl _) ?_; intro w3 hg3 hb3))
      have hblk3 : Blk w3 w'.heap.size 3 (List.replicate (m + k) (Value.int .i64 x) ++ List.replicate (n - (m + k)) (Value.int .i64 0)).toArray := by
        have h2 := hg3.out
        rw [splice_rep (.int .i64 x) (.int .i64 0) n m k (by omega)] at h2
        exact h2
      clear Hb HB HC hg3 hk
      go_wp2_with fail
      go_roundg g1
      case measure => omega
      case rel => exact ⟨m + k, by rw [Int.natCast_add], by omega, fun _ => by omega, by omega, hblk3, hb3⟩
    · obtain rfl : m = n := by omega
      go_wp2_with fail
      go_ret
      refine ⟨_, rfl, ?_, hb⟩
      rw [Nat.sub_self, List.replicate_zero, List.append_nil] at hblk
      have hmx : m ≤ maxLen := by have := Hn.out; unfold maxLen; omega
      exact ⟨by simp, .inr ⟨w'.heap.size, m, _, rfl, Nat.le_refl _, hblk, Nat.le_refl _, hmx, by simp, by simp⟩⟩
end Go.Proofs.YtonnegkpjmhomaaGreatDoor
end
