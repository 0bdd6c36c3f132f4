import Derived.Test.YtepdnjjfhbjcjaaGreatDoorProg
import Derived.WalkKit
import Derived.WalkLawsBesides
import Derived.WalkSpells
import Derived.Outline
import Derived.Below
import Derived.Lib.Hide
import Derived.Laws.EntriesVeiled
import Derived.Test.YtepdnjjfhbjcjaaGreatDoorC2
set_option linter.all false
section
namespace Go.Proofs.YtepdnjjfhbjcjaaGreatDoor
open Go.RowKit
theorem bcell {W w1 : World} (hb : Below W.heap.size W w1) : (∀ b o, b < W.heap.size → w1.cell? ⟨b, o, none⟩ = W.cell? ⟨b, o, none⟩) ∧ (∀ b o, b < W.heap.size → w1.frozen? ⟨b, o, none⟩ = W.frozen? ⟨b, o, none⟩) :=
  ⟨fun b o h => hb.cell (p := ⟨b, o, none⟩) h, fun b o h => hb.frozen (p := ⟨b, o, none⟩) h⟩
theorem below1 (w : World) (o : Obj) : Below w.heap.size w (w.alloc o) := (Below.refl _ _).alloc (Nat.le_refl _) o
theorem below2 (w : World) (o o' : Obj) : Below w.heap.size w ((w.alloc o).alloc o') := (below1 w o).alloc (by simp) o'
theorem below3 (w : World) (o o' o'' : Obj) : Below w.heap.size w (((w.alloc o).alloc o').alloc o'') := (below2 w o o').alloc (by simp; omega) o''
def inb (n s : Int) : Bool := decide (n ≤ s) && decide (-s ≤ n)
set_option maxHeartbeats 400000 in
theorem within1_calls (n s : Int) (hs : 0 ≤ s) (hs1 : s ≤ 4611686018427387904) (b : Nat) (w : World) (hc : w.cell? ⟨b, 0, none⟩ = some (.int .i64 s)) :
    Calls Tryz.prog 96 #[.int .i64 n, .pointer (some ⟨b, 0, none⟩)] w fun e w' => e = .returned (.bool (inb n s)) ∧ w = w' := by
  by_cases h1 : n ≤ s
  · have h2 : inb n s = decide (-s ≤ n) := by simp [inb, h1]
    rw [h2]; clear h2
    go_enter Tryz.func96, Tryz.ntmps96
    go_wp2
    go_ret
    exact ⟨rfl, rfl⟩
  · have h2 : inb n s = false := by simp [inb, h1]
    rw [h2]; clear h2
    go_enter Tryz.func96, Tryz.ntmps96
    go_wp2
    go_ret
    exact ⟨rfl, rfl⟩
set_option maxHeartbeats 400000 in
theorem every1_calls (n s : Int) (hs : 0 ≤ s) (hs1 : s ≤ 4611686018427387904) (b b2 : Nat) (w : World) (hc : w.cell? ⟨b, 0, none⟩ = some (.int .i64 s))
    (hc2 : w.cell? ⟨b2, 0, none⟩ = some (.func (.func 96) #[] #[.pointer (some ⟨b, 0, none⟩)])) :
    Calls Tryz.prog 109 #[.int .i64 n, .pointer (some ⟨b2, 0, none⟩)] w fun e w' => e = .returned (.bool (!inb n s)) ∧ w = w' := by
  go_enter Tryz.func109, Tryz.ntmps109
  go_wp2_with fail
  refine (within1_calls n s hs hs1 b _ hc).mono ?_
  rintro e w' ⟨rfl, rfl⟩
  go_wp2
  go_ret
  exact ⟨rfl, rfl⟩
def fi (s : Int) : Nat → List Int → Int
  | _, [] => -1
  | i, x :: l => if inb x s then fi s (i + 1) l else i
set_option maxHeartbeats 400000 in
theorem indexFunc_calls (zs : List Int) (s : Int) (hs : 0 ≤ s) (hs1 : s ≤ 4611686018427387904) (b b2 b3 : Nat) (w : World) (hc : w.cell? ⟨b, 0, none⟩ = some (.int .i64 s))
    (hc2 : w.cell? ⟨b2, 0, none⟩ = some (.func (.func 96) #[] #[.pointer (some ⟨b, 0, none⟩)])) (hl : zs.length ≤ 1000)
    (hz : ∀ j, j < zs.length → w.cell? ⟨b3, j, none⟩ = some (.int .i64 (zs[j]?.getD 0))) :
    Calls Tryz.prog 121 #[.slice (some ⟨b3, 0, none⟩) zs.length zs.length, .func (.func 109) #[] #[.pointer (some ⟨b2, 0, none⟩)]] w fun e w' => e = .returned (.int .i64 (fi s 0 zs)) ∧ w = w' := by
  go_enter Tryz.func121, Tryz.ntmps121
  go_wp2_with fail
  go_loop [8, 4, 9] (fun i _ _ => ∃ k : Nat, k ≤ zs.length ∧ i = .int .i64 k ∧ fi s 0 zs = fi s k (zs.drop k)) (fun i _ _ => zs.length - (intOf i).toNat)
  case atStart => exact ⟨0, by simp, rfl, rfl⟩
  case round =>
    obtain ⟨k, hk, rfl, hf⟩ := hrel
    have Hf : Hid (fi s 0 zs = fi s k (zs.drop k)) := hf
    clear hf
    by_cases hlt : k < zs.length
    · obtain ⟨x, Hc, hzk⟩ : ∃ x, Hid (zs.drop k = x :: zs.drop (k + 1)) ∧ w.cell? ⟨b3, k, none⟩ = some (.int .i64 x) :=
        ⟨zs[k], by show zs.drop k = _; rw [List.drop_eq_getElem_cons hlt], by rw [hz k hlt, List.getElem?_eq_getElem hlt]; rfl⟩
      clear hz
      go_wp2_with fail
      refine (every1_calls _ s hs hs1 b b2 _ hc hc2).mono ?_
      rintro e w' ⟨rfl, rfl⟩
      cases hi : inb x s
      · have Hr : Hid (fi s 0 zs = k) := by show fi s 0 zs = k; rw [Hf.out, Hc.out, fi, hi]; rfl
        go_wp2
        go_ret
        exact ⟨by rw [Hr.out]; rfl, rfl⟩
      · have Hr : Hid (fi s 0 zs = fi s (k + 1) (zs.drop (k + 1))) := by show fi s 0 zs = _; rw [Hf.out, Hc.out, fi, hi]; rfl
        go_wp2
        go_round
        case rel => exact ⟨k + 1, by omega, by go_num, Hr.out⟩
        case measure => simp [intOf]; omega
    · have Hr : Hid (fi s 0 zs = -1) := by show fi s 0 zs = -1; rw [Hf.out, List.drop_of_length_le (by omega)]; rfl
      go_wp2
      go_ret
      exact ⟨by rw [Hr.out]; rfl, rfl⟩
def wiB (a b c d s : Int) : Bool := inb a s && inb b s && inb c s && inb d s
theorem fi_four (a b c d s : Int) : (!decide (0 ≤ fi s 0 [a, b, c, d])) = wiB a b c d s := by
  unfold wiB
  simp only [fi]
  rcases Bool.eq_false_or_eq_true (inb a s) with h1 | h1 <;> rcases Bool.eq_false_or_eq_true (inb b s) with h2 | h2 <;> rcases Bool.eq_false_or_eq_true (inb c s) with h3 | h3 <;> rcases Bool.eq_false_or_eq_true (inb d s) with h4 | h4 <;>
    simp [h1, h2, h3, h4] <;> omega
set_option maxHeartbeats 400000 in
theorem within_calls (a b c d s : Int) (hs : 0 ≤ s) (hs1 : s ≤ 4611686018427387904) (w : World) :
    Calls Tryz.prog 55 #[.agg #[.int .i64 a, .int .i64 b, .int .i64 c, .int .i64 d], .int .i64 s] w fun e w' =>
      e = .returned (.bool (wiB a b c d s)) ∧ Below w.heap.size w w' := by
  have hz : ∀ j, j < [a, b, c, d].length → (((w.alloc (.cells #[.int .i64 a, .int .i64 b, .int .i64 c, .int .i64 d] 66)).alloc (.cells #[.int .i64 s] 3)).alloc
      (.cells #[.func (.func 96) #[] #[.pointer (some ⟨w.heap.size + 1, 0, none⟩)]] 68)).cell? ⟨w.heap.size, j, none⟩ = some (.int .i64 ([a, b, c, d][j]?.getD 0)) := by
    intro j hj
    rw [World.cell?_alloc_past _ _ _ (by simp; omega), World.cell?_alloc_past _ _ _ (by simp), World.cell?_alloc_at _ _ _ _ rfl]
    match j, hj with
    | 0, _ => rfl
    | 1, _ => rfl
    | 2, _ => rfl
    | 3, _ => rfl
  have Hz := Lib.hid hz
  clear hz
  have Hf := Lib.hid (fi_four a b c d s)
  go_enter Tryz.func55, Tryz.ntmps55
  go_wp2_with (first | (go_at_call 95; go_in) | (go_at_call 108; go_in))
  refine (indexFunc_calls [a, b, c, d] s hs hs1 (w.heap.size + 1) (w.heap.size + 1 + 1) w.heap.size _ (by simp [go_sem]) (by simp [go_sem]) (by simp) Hz.out).mono ?_
  rintro e w' ⟨rfl, rfl⟩
  go_wp2
  go_ret
  exact ⟨by rw [← Hf.out]; rfl, below3 _ _ _ _⟩
end Go.Proofs.YtepdnjjfhbjcjaaGreatDoor
end
