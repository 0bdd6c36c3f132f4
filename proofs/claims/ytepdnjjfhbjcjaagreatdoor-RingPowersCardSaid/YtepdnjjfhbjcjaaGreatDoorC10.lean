import Derived.Lib.OthersKept
import Derived.WalkMore
import Derived.Lib.Atoi
import Derived.Lib.ItoaNum
import Derived.Lib.Index
import Derived.Deep.DeepCutAuto
import Derived.BigQuiet
import Derived.Deep.QuietTactic
import Derived.Lib.AtoiErrMem
import Derived.Test.YtepdnjjfhbjcjaaGreatDoorC0
import Derived.Test.YtepdnjjfhbjcjaaGreatDoorC9
set_option linter.all false
section
namespace Go.Proofs.YtepdnjjfhbjcjaaGreatDoor
open Go.RowKit
def Tabs (w : World) : Prop := Lib.TabIs Tryz.prog w "internal/strconv.uint64pow10" .u64 Lib.pow10Tab ∧ ∃ m : Int, w.cell? ⟨0, 0, none⟩ = some (.int .i64 m)
theorem Tabs.below {w w' : World} (h : Tabs w) (hb : Below w.heap.size w w') : Tabs w' := by
  obtain ⟨h1, m, hm⟩ := h
  refine ⟨?_, m, ?_⟩
  · unfold Lib.TabIs World.var? at *
    cases hg : Tryz.prog.globalNamed "internal/strconv.uint64pow10" with
    | none => rw [hg] at h1; cases h1
    | some g =>
      rw [hg] at h1
      simp only [Option.bind_some] at h1 ⊢
      rcases Nat.lt_or_ge g w.heap.size with hl | hl
      · rw [hb.block g hl]; exact h1
      · rw [Array.getElem?_eq_none hl] at h1; cases h1
  · have h0 : 0 < w.heap.size := by
      rcases Nat.eq_zero_or_pos w.heap.size with h | h
      · have : w.heap[0]? = none := Array.getElem?_eq_none (by omega)
        simp [World.cell?, this] at hm
      · exact h
    exact (hb.cell (p := ⟨0, 0, none⟩) h0).trans hm
theorem below_grow (w : World) (k : Nat) (os : Array Obj) : Below w.heap.size w (Sort.grow (w.drewN k) os) :=
  ⟨rfl, rfl, rfl, by simp [Sort.grow, World.drewN], fun i hi => by
    show (w.heap ++ os)[i]? = _
    rw [Array.getElem?_append_left hi]⟩
def bs (l : List UInt8) : ByteArray := ⟨l.toArray⟩
theorem bs_append (a b : List UInt8) : bs a ++ bs b = bs (a ++ b) := by
  apply ByteArray.ext
  simp [bs]
theorem Itoa_calls (n : Int) (h : -9000000000000000000 ≤ n ∧ n ≤ 9000000000000000000) (w : World) (ht : Tabs w) :
    Calls Tryz.prog 88 #[.int .i64 n] w fun e w' => e = .returned (.string (bs (Lib.itoa n))) ∧ Below w.heap.size w w' :=
  (Tryz.strconv_Itoa n (by omega) (by omega) w ht.1).mono fun _ _ ⟨he, k, os, hw⟩ => ⟨he, by rw [hw]; exact below_grow _ _ _⟩
def unitB (i : Nat) : List UInt8 := match i with | 0 => [] | 1 => [119] | 2 => [119, 50] | _ => [119, 51]
set_option maxHeartbeats 1000000 in
theorem unit_calls (i : Nat) (hi : i < 4) (w : World) :
    Calls Tryz.prog 101 #[.int .i64 i] w fun e w' => e = .returned (.string (bs (unitB i))) ∧ Below w.heap.size w w' := by
  match i, hi with
  | 0, _ =>
    go_enter Tryz.func101, Tryz.ntmps101
    go_wp2
    go_ret
    exact ⟨rfl, below1 _ _⟩
  | 1, _ =>
    go_enter Tryz.func101, Tryz.ntmps101
    go_wp2
    go_ret
    exact ⟨rfl, below1 _ _⟩
  | 2, _ =>
    go_enter Tryz.func101, Tryz.ntmps101
    go_wp2
    go_ret
    exact ⟨rfl, below1 _ _⟩
  | 3, _ =>
    go_enter Tryz.func101, Tryz.ntmps101
    go_wp2
    go_ret
    exact ⟨rfl, below1 _ _⟩
def termB (i : Nat) (c : Int) (out : List UInt8) : List UInt8 :=
  if c = 0 then out else
    (if 0 < i ∧ c = 1 then (if 0 < c ∧ out ≠ [] then out ++ [43] else out)
      else if 0 < i ∧ c = -1 then out ++ [45] else (if 0 < c ∧ out ≠ [] then out ++ [43] else out) ++ Lib.itoa c) ++ unitB i
def coef (p : Pt) (i : Nat) : Int := match i with | 0 => p.a | 1 => p.b | 2 => p.c | _ => p.d
def termsN (p : Pt) : Nat → List UInt8
  | 0 => []
  | n + 1 => termB n (coef p n) (termsN p n)
theorem bs_size (l : List UInt8) : (bs l).size = l.length := by simp [bs, ByteArray.size]
theorem bs_empty (l : List UInt8) : (bs l).toList.isEmpty = l.isEmpty := by
  have h : (bs l).toList = l := by simp [bs, ByteArray.toList_eq]
  rw [h]
theorem nDigits_le (n u : Nat) (h : u < 10 ^ (n + 1)) : Lib.nDigits u ≤ n + 1 := by
  induction n generalizing u with
  | zero => rw [Lib.nDigits_small (by omega)]; omega
  | succ n ih =>
    unfold Lib.nDigits
    split
    · omega
    · have := ih (u / 10) (by rw [Nat.div_lt_iff_lt_mul (by decide)]; rw [Nat.pow_succ] at h; exact h)
      omega
theorem itoa_len {c : Int} (h : -1073741824 ≤ c ∧ c ≤ 1073741824) : (Lib.itoa c).length ≤ 20 := by
  have h1 : ∀ u : Nat, u ≤ 1073741824 → (Lib.decDigits u).length ≤ 10 := fun u hu => by
    rw [Lib.decDigits_length]; exact nDigits_le 9 u (by omega)
  unfold Lib.itoa
  split
  · have := h1 c.natAbs (by omega); simp only [List.length_cons]; omega
  · have := h1 c.toNat (by omega); omega
theorem unitB_len (i : Nat) : (unitB i).length ≤ 2 := by unfold unitB; split <;> decide
set_option maxRecDepth 100000 in
set_option maxHeartbeats 4000000 in
theorem terms_calls (p : Pt) (hp : p.le 1073741824) (w : World) (ht : Tabs w) :
    Calls Tryz.prog 87 #[.agg #[.int .i64 p.a, .int .i64 p.b, .int .i64 p.c, .int .i64 p.d]] w fun e w' => e = .returned (.string (bs (termsN p 4))) ∧ Below w.heap.size w w' := by
  have i0 : ∀ x0 x1 x2 x3 w, (Instr.index 66 (.agg #[x0, x1, x2, x3]) (.int .i64 0)).run Tryz.prog w = .ok x0 w := fun _ _ _ _ _ => by kernel_rfl
  have i1 : ∀ x0 x1 x2 x3 w, (Instr.index 66 (.agg #[x0, x1, x2, x3]) (.int .i64 1)).run Tryz.prog w = .ok x1 w := fun _ _ _ _ _ => by kernel_rfl
  have i2 : ∀ x0 x1 x2 x3 w, (Instr.index 66 (.agg #[x0, x1, x2, x3]) (.int .i64 2)).run Tryz.prog w = .ok x2 w := fun _ _ _ _ _ => by kernel_rfl
  have i3 : ∀ x0 x1 x2 x3 w, (Instr.index 66 (.agg #[x0, x1, x2, x3]) (.int .i64 3)).run Tryz.prog w = .ok x3 w := fun _ _ _ _ _ => by kernel_rfl
  have Hp := Lib.hid hp
  have HT := Lib.hid ht
  clear ht hp
  go_enter Tryz.func87, Tryz.ntmps87
  go_wp2_with fail
  go_loopg [3, 7] 4 (fun g s3 s7 wr => ∃ k : Nat, g = 4 - k ∧ k ≤ 4 ∧ s3 = .string (bs (termsN p k)) ∧ s7 = .int .i64 k ∧ (termsN p k).length ≤ 100 * k ∧ Below w.heap.size w wr)
  case atStart => exact ⟨0, rfl, by omega, rfl, rfl, by simp [termsN], below1 _ _⟩
  case round =>
    obtain ⟨k, hg, hk, rfl, rfl, hl, hb⟩ := hrel
    have hz : (bs (termsN p k)).size ≤ 400 := by rw [bs_size]; omega
    have HL : Hid ((bs (termsN p k)).size = (termsN p k).length) := bs_size _
    have HS : Hid (∀ l, bs (termsN p k) ++ bs l = bs (termsN p k ++ l)) := fun l => bs_append _ _
    cases hE : (bs (termsN p k)).toList.isEmpty
    · have HE : Hid (termsN p k ≠ []) := fun h => by rw [bs_empty, h] at hE; cases hE
      rcases Nat.lt_or_ge k 4 with hlt | hge
      · match k, hlt with
        | 0, _ =>
          exact absurd rfl HE.out
        | 1, _ =>
          have Hb : Hid (-1073741824 ≤ p.b ∧ p.b ≤ 1073741824) := Hp.out.2.1
          have hb1 : -1073741824 ≤ p.b := Hb.out.1
          have hb2 : p.b ≤ 1073741824 := Hb.out.2
          by_cases hc : p.b = 0
          · go_wp2_with fail
            go_roundg (4 - (1 + 1))
            case measure => omega
            case rel =>
              have he : termsN p (1 + 1) = termsN p 1 := by show termB 1 p.b _ = _; unfold termB; rw [if_pos hc]
              exact ⟨1 + 1, rfl, by omega, by rw [he], rfl, by rw [he]; omega, hb⟩
          · have hc0 : (p.b == 0) = false := by simpa using hc
            by_cases hpos : 0 < p.b
            · by_cases h1 : p.b = 1
              · have He : Hid (termsN p (1 + 1) = ((termsN p 1 ++ [43]) ++ unitB 1)) := by show termB 1 p.b _ = _; unfold termB; rw [if_neg hc, if_pos ⟨by decide, h1⟩, if_pos ⟨hpos, HE.out⟩]
                have h1b : (p.b == 1) = true := by simpa using h1
                clear hc h1
                go_wp2_with fail
                all_goals try (exfalso; omega)
                refine (unit_calls 1 (by omega) _).mono ?_
                rintro e w2 ⟨rfl, hb2⟩
                have hb := bt hb2 hb hb.size
                clear hb2
                have hU : (bs (unitB 1)).size ≤ 2 := by rw [bs_size]; exact unitB_len _
                generalize hUe : bs (unitB 1) = U at *
                have HU := Lib.hid hUe
                clear hUe
                go_wp2_with fail
                all_goals try (exfalso; omega)
                go_roundg (4 - (1 + 1))
                case measure => omega
                case rel =>
                  have hl2 := itoa_len Hb.out
                  have hl3 := unitB_len 1
                  refine ⟨1 + 1, rfl, by omega, ?_, rfl, ?_, hb⟩
                  · show Value.string (bs (termsN p 1) ++ bs [43] ++ U) = _
                    rw [He.out, ← HU.out, bs_append, bs_append]
                  · rw [He.out]; simp only [List.length_append, List.length_cons, List.length_nil]; omega
              · have He : Hid (termsN p (1 + 1) = (((termsN p 1 ++ [43]) ++ Lib.itoa p.b) ++ unitB 1)) := by show termB 1 p.b _ = _; unfold termB; rw [if_neg hc, if_neg (by rintro ⟨_, h⟩; omega), if_neg (by rintro ⟨_, h⟩; omega), if_pos ⟨hpos, HE.out⟩]
                have h1b : (p.b == 1) = false := by simpa using h1
                clear hc h1
                go_wp2_with fail
                all_goals try (exfalso; omega)
                refine (Itoa_calls _ (by have := Hb.out; omega) _ (HT.out.below hb)).mono ?_
                rintro e w1 ⟨rfl, hb1⟩
                have hb := bt hb1 hb hb.size
                clear hb1
                have hI : (bs (Lib.itoa p.b)).size ≤ 20 := by rw [bs_size]; exact itoa_len Hb.out
                generalize hIe : bs (Lib.itoa p.b) = I at *
                have HI := Lib.hid hIe
                clear hIe
                go_wp2_with fail
                all_goals try (exfalso; omega)
                refine (unit_calls 1 (by omega) _).mono ?_
                rintro e w2 ⟨rfl, hb2⟩
                have hb := bt hb2 hb hb.size
                clear hb2
                have hU : (bs (unitB 1)).size ≤ 2 := by rw [bs_size]; exact unitB_len _
                generalize hUe : bs (unitB 1) = U at *
                have HU := Lib.hid hUe
                clear hUe
                go_wp2_with fail
                all_goals try (exfalso; omega)
                go_roundg (4 - (1 + 1))
                case measure => omega
                case rel =>
                  have hl2 := itoa_len Hb.out
                  have hl3 := unitB_len 1
                  refine ⟨1 + 1, rfl, by omega, ?_, rfl, ?_, hb⟩
                  · show Value.string (bs (termsN p 1) ++ bs [43] ++ I ++ U) = _
                    rw [He.out, ← HU.out, ← HI.out, bs_append, bs_append, bs_append]
                  · rw [He.out]; simp only [List.length_append, List.length_cons, List.length_nil]; omega
            · by_cases h1 : p.b = -1
              · have He : Hid (termsN p (1 + 1) = ((termsN p 1 ++ [45]) ++ unitB 1)) := by show termB 1 p.b _ = _; unfold termB; rw [if_neg hc, if_neg (by rintro ⟨_, h⟩; omega), if_pos ⟨by decide, h1⟩]
                have h1b : (p.b == -1) = true := by simpa using h1
                clear hc h1
                go_wp2_with fail
                all_goals try (exfalso; omega)
                refine (unit_calls 1 (by omega) _).mono ?_
                rintro e w2 ⟨rfl, hb2⟩
                have hb := bt hb2 hb hb.size
                clear hb2
                have hU : (bs (unitB 1)).size ≤ 2 := by rw [bs_size]; exact unitB_len _
                generalize hUe : bs (unitB 1) = U at *
                have HU := Lib.hid hUe
                clear hUe
                go_wp2_with fail
                all_goals try (exfalso; omega)
                go_roundg (4 - (1 + 1))
                case measure => omega
                case rel =>
                  have hl2 := itoa_len Hb.out
                  have hl3 := unitB_len 1
                  refine ⟨1 + 1, rfl, by omega, ?_, rfl, ?_, hb⟩
                  · show Value.string (bs (termsN p 1) ++ bs [45] ++ U) = _
                    rw [He.out, ← HU.out, bs_append, bs_append]
                  · rw [He.out]; simp only [List.length_append, List.length_cons, List.length_nil]; omega
              · have He : Hid (termsN p (1 + 1) = ((termsN p 1 ++ Lib.itoa p.b) ++ unitB 1)) := by show termB 1 p.b _ = _; unfold termB; rw [if_neg hc, if_neg (by rintro ⟨_, h⟩; omega), if_neg (by rintro ⟨_, h⟩; omega), if_neg (by rintro ⟨h, _⟩; omega)]
                have h1b : (p.b == -1) = false := by simpa using h1
                clear hc h1
                go_wp2_with fail
                all_goals try (exfalso; omega)
                refine (Itoa_calls _ (by have := Hb.out; omega) _ (HT.out.below hb)).mono ?_
                rintro e w1 ⟨rfl, hb1⟩
                have hb := bt hb1 hb hb.size
                clear hb1
                have hI : (bs (Lib.itoa p.b)).size ≤ 20 := by rw [bs_size]; exact itoa_len Hb.out
                generalize hIe : bs (Lib.itoa p.b) = I at *
                have HI := Lib.hid hIe
                clear hIe
                go_wp2_with fail
                all_goals try (exfalso; omega)
                refine (unit_calls 1 (by omega) _).mono ?_
                rintro e w2 ⟨rfl, hb2⟩
                have hb := bt hb2 hb hb.size
                clear hb2
                have hU : (bs (unitB 1)).size ≤ 2 := by rw [bs_size]; exact unitB_len _
                generalize hUe : bs (unitB 1) = U at *
                have HU := Lib.hid hUe
                clear hUe
                go_wp2_with fail
                all_goals try (exfalso; omega)
                go_roundg (4 - (1 + 1))
                case measure => omega
                case rel =>
                  have hl2 := itoa_len Hb.out
                  have hl3 := unitB_len 1
                  refine ⟨1 + 1, rfl, by omega, ?_, rfl, ?_, hb⟩
                  · show Value.string (bs (termsN p 1) ++ I ++ U) = _
                    rw [He.out, ← HU.out, ← HI.out, bs_append, bs_append]
                  · rw [He.out]; simp only [List.length_append]; omega
        | 2, _ =>
          have Hb : Hid (-1073741824 ≤ p.c ∧ p.c ≤ 1073741824) := Hp.out.2.2.1
          have hb1 : -1073741824 ≤ p.c := Hb.out.1
          have hb2 : p.c ≤ 1073741824 := Hb.out.2
          by_cases hc : p.c = 0
          · go_wp2_with fail
            go_roundg (4 - (2 + 1))
            case measure => omega
            case rel =>
              have he : termsN p (2 + 1) = termsN p 2 := by show termB 2 p.c _ = _; unfold termB; rw [if_pos hc]
              exact ⟨2 + 1, rfl, by omega, by rw [he], rfl, by rw [he]; omega, hb⟩
          · have hc0 : (p.c == 0) = false := by simpa using hc
            by_cases hpos : 0 < p.c
            · by_cases h1 : p.c = 1
              · have He : Hid (termsN p (2 + 1) = ((termsN p 2 ++ [43]) ++ unitB 2)) := by show termB 2 p.c _ = _; unfold termB; rw [if_neg hc, if_pos ⟨by decide, h1⟩, if_pos ⟨hpos, HE.out⟩]
                have h1b : (p.c == 1) = true := by simpa using h1
                clear hc h1
                go_wp2_with fail
                all_goals try (exfalso; omega)
                refine (unit_calls 2 (by omega) _).mono ?_
                rintro e w2 ⟨rfl, hb2⟩
                have hb := bt hb2 hb hb.size
                clear hb2
                have hU : (bs (unitB 2)).size ≤ 2 := by rw [bs_size]; exact unitB_len _
                generalize hUe : bs (unitB 2) = U at *
                have HU := Lib.hid hUe
                clear hUe
                go_wp2_with fail
                all_goals try (exfalso; omega)
                go_roundg (4 - (2 + 1))
                case measure => omega
                case rel =>
                  have hl2 := itoa_len Hb.out
                  have hl3 := unitB_len 2
                  refine ⟨2 + 1, rfl, by omega, ?_, rfl, ?_, hb⟩
                  · show Value.string (bs (termsN p 2) ++ bs [43] ++ U) = _
                    rw [He.out, ← HU.out, bs_append, bs_append]
                  · rw [He.out]; simp only [List.length_append, List.length_cons, List.length_nil]; omega
              · have He : Hid (termsN p (2 + 1) = (((termsN p 2 ++ [43]) ++ Lib.itoa p.c) ++ unitB 2)) := by show termB 2 p.c _ = _; unfold termB; rw [if_neg hc, if_neg (by rintro ⟨_, h⟩; omega), if_neg (by rintro ⟨_, h⟩; omega), if_pos ⟨hpos, HE.out⟩]
                have h1b : (p.c == 1) = false := by simpa using h1
                clear hc h1
                go_wp2_with fail
                all_goals try (exfalso; omega)
                refine (Itoa_calls _ (by have := Hb.out; omega) _ (HT.out.below hb)).mono ?_
                rintro e w1 ⟨rfl, hb1⟩
                have hb := bt hb1 hb hb.size
                clear hb1
                have hI : (bs (Lib.itoa p.c)).size ≤ 20 := by rw [bs_size]; exact itoa_len Hb.out
                generalize hIe : bs (Lib.itoa p.c) = I at *
                have HI := Lib.hid hIe
                clear hIe
                go_wp2_with fail
                all_goals try (exfalso; omega)
                refine (unit_calls 2 (by omega) _).mono ?_
                rintro e w2 ⟨rfl, hb2⟩
                have hb := bt hb2 hb hb.size
                clear hb2
                have hU : (bs (unitB 2)).size ≤ 2 := by rw [bs_size]; exact unitB_len _
                generalize hUe : bs (unitB 2) = U at *
                have HU := Lib.hid hUe
                clear hUe
                go_wp2_with fail
                all_goals try (exfalso; omega)
                go_roundg (4 - (2 + 1))
                case measure => omega
                case rel =>
                  have hl2 := itoa_len Hb.out
                  have hl3 := unitB_len 2
                  refine ⟨2 + 1, rfl, by omega, ?_, rfl, ?_, hb⟩
                  · show Value.string (bs (termsN p 2) ++ bs [43] ++ I ++ U) = _
                    rw [He.out, ← HU.out, ← HI.out, bs_append, bs_append, bs_append]
                  · rw [He.out]; simp only [List.length_append, List.length_cons, List.length_nil]; omega
            · by_cases h1 : p.c = -1
              · have He : Hid (termsN p (2 + 1) = ((termsN p 2 ++ [45]) ++ unitB 2)) := by show termB 2 p.c _ = _; unfold termB; rw [if_neg hc, if_neg (by rintro ⟨_, h⟩; omega), if_pos ⟨by decide, h1⟩]
                have h1b : (p.c == -1) = true := by simpa using h1
                clear hc h1
                go_wp2_with fail
                all_goals try (exfalso; omega)
                refine (unit_calls 2 (by omega) _).mono ?_
                rintro e w2 ⟨rfl, hb2⟩
                have hb := bt hb2 hb hb.size
                clear hb2
                have hU : (bs (unitB 2)).size ≤ 2 := by rw [bs_size]; exact unitB_len _
                generalize hUe : bs (unitB 2) = U at *
                have HU := Lib.hid hUe
                clear hUe
                go_wp2_with fail
                all_goals try (exfalso; omega)
                go_roundg (4 - (2 + 1))
                case measure => omega
                case rel =>
                  have hl2 := itoa_len Hb.out
                  have hl3 := unitB_len 2
                  refine ⟨2 + 1, rfl, by omega, ?_, rfl, ?_, hb⟩
                  · show Value.string (bs (termsN p 2) ++ bs [45] ++ U) = _
                    rw [He.out, ← HU.out, bs_append, bs_append]
                  · rw [He.out]; simp only [List.length_append, List.length_cons, List.length_nil]; omega
              · have He : Hid (termsN p (2 + 1) = ((termsN p 2 ++ Lib.itoa p.c) ++ unitB 2)) := by show termB 2 p.c _ = _; unfold termB; rw [if_neg hc, if_neg (by rintro ⟨_, h⟩; omega), if_neg (by rintro ⟨_, h⟩; omega), if_neg (by rintro ⟨h, _⟩; omega)]
                have h1b : (p.c == -1) = false := by simpa using h1
                clear hc h1
                go_wp2_with fail
                all_goals try (exfalso; omega)
                refine (Itoa_calls _ (by have := Hb.out; omega) _ (HT.out.below hb)).mono ?_
                rintro e w1 ⟨rfl, hb1⟩
                have hb := bt hb1 hb hb.size
                clear hb1
                have hI : (bs (Lib.itoa p.c)).size ≤ 20 := by rw [bs_size]; exact itoa_len Hb.out
                generalize hIe : bs (Lib.itoa p.c) = I at *
                have HI := Lib.hid hIe
                clear hIe
                go_wp2_with fail
                all_goals try (exfalso; omega)
                refine (unit_calls 2 (by omega) _).mono ?_
                rintro e w2 ⟨rfl, hb2⟩
                have hb := bt hb2 hb hb.size
                clear hb2
                have hU : (bs (unitB 2)).size ≤ 2 := by rw [bs_size]; exact unitB_len _
                generalize hUe : bs (unitB 2) = U at *
                have HU := Lib.hid hUe
                clear hUe
                go_wp2_with fail
                all_goals try (exfalso; omega)
                go_roundg (4 - (2 + 1))
                case measure => omega
                case rel =>
                  have hl2 := itoa_len Hb.out
                  have hl3 := unitB_len 2
                  refine ⟨2 + 1, rfl, by omega, ?_, rfl, ?_, hb⟩
                  · show Value.string (bs (termsN p 2) ++ I ++ U) = _
                    rw [He.out, ← HU.out, ← HI.out, bs_append, bs_append]
                  · rw [He.out]; simp only [List.length_append]; omega
        | 3, _ =>
          have Hb : Hid (-1073741824 ≤ p.d ∧ p.d ≤ 1073741824) := Hp.out.2.2.2
          have hb1 : -1073741824 ≤ p.d := Hb.out.1
          have hb2 : p.d ≤ 1073741824 := Hb.out.2
          by_cases hc : p.d = 0
          · go_wp2_with fail
            go_roundg (4 - (3 + 1))
            case measure => omega
            case rel =>
              have he : termsN p (3 + 1) = termsN p 3 := by show termB 3 p.d _ = _; unfold termB; rw [if_pos hc]
              exact ⟨3 + 1, rfl, by omega, by rw [he], rfl, by rw [he]; omega, hb⟩
          · have hc0 : (p.d == 0) = false := by simpa using hc
            by_cases hpos : 0 < p.d
            · by_cases h1 : p.d = 1
              · have He : Hid (termsN p (3 + 1) = ((termsN p 3 ++ [43]) ++ unitB 3)) := by show termB 3 p.d _ = _; unfold termB; rw [if_neg hc, if_pos ⟨by decide, h1⟩, if_pos ⟨hpos, HE.out⟩]
                have h1b : (p.d == 1) = true := by simpa using h1
                clear hc h1
                go_wp2_with fail
                all_goals try (exfalso; omega)
                refine (unit_calls 3 (by omega) _).mono ?_
                rintro e w2 ⟨rfl, hb2⟩
                have hb := bt hb2 hb hb.size
                clear hb2
                have hU : (bs (unitB 3)).size ≤ 2 := by rw [bs_size]; exact unitB_len _
                generalize hUe : bs (unitB 3) = U at *
                have HU := Lib.hid hUe
                clear hUe
                go_wp2_with fail
                all_goals try (exfalso; omega)
                go_roundg (4 - (3 + 1))
                case measure => omega
                case rel =>
                  have hl2 := itoa_len Hb.out
                  have hl3 := unitB_len 3
                  refine ⟨3 + 1, rfl, by omega, ?_, rfl, ?_, hb⟩
                  · show Value.string (bs (termsN p 3) ++ bs [43] ++ U) = _
                    rw [He.out, ← HU.out, bs_append, bs_append]
                  · rw [He.out]; simp only [List.length_append, List.length_cons, List.length_nil]; omega
              · have He : Hid (termsN p (3 + 1) = (((termsN p 3 ++ [43]) ++ Lib.itoa p.d) ++ unitB 3)) := by show termB 3 p.d _ = _; unfold termB; rw [if_neg hc, if_neg (by rintro ⟨_, h⟩; omega), if_neg (by rintro ⟨_, h⟩; omega), if_pos ⟨hpos, HE.out⟩]
                have h1b : (p.d == 1) = false := by simpa using h1
                clear hc h1
                go_wp2_with fail
                all_goals try (exfalso; omega)
                refine (Itoa_calls _ (by have := Hb.out; omega) _ (HT.out.below hb)).mono ?_
                rintro e w1 ⟨rfl, hb1⟩
                have hb := bt hb1 hb hb.size
                clear hb1
                have hI : (bs (Lib.itoa p.d)).size ≤ 20 := by rw [bs_size]; exact itoa_len Hb.out
                generalize hIe : bs (Lib.itoa p.d) = I at *
                have HI := Lib.hid hIe
                clear hIe
                go_wp2_with fail
                all_goals try (exfalso; omega)
                refine (unit_calls 3 (by omega) _).mono ?_
                rintro e w2 ⟨rfl, hb2⟩
                have hb := bt hb2 hb hb.size
                clear hb2
                have hU : (bs (unitB 3)).size ≤ 2 := by rw [bs_size]; exact unitB_len _
                generalize hUe : bs (unitB 3) = U at *
                have HU := Lib.hid hUe
                clear hUe
                go_wp2_with fail
                all_goals try (exfalso; omega)
                go_roundg (4 - (3 + 1))
                case measure => omega
                case rel =>
                  have hl2 := itoa_len Hb.out
                  have hl3 := unitB_len 3
                  refine ⟨3 + 1, rfl, by omega, ?_, rfl, ?_, hb⟩
                  · show Value.string (bs (termsN p 3) ++ bs [43] ++ I ++ U) = _
                    rw [He.out, ← HU.out, ← HI.out, bs_append, bs_append, bs_append]
                  · rw [He.out]; simp only [List.length_append, List.length_cons, List.length_nil]; omega
            · by_cases h1 : p.d = -1
              · have He : Hid (termsN p (3 + 1) = ((termsN p 3 ++ [45]) ++ unitB 3)) := by show termB 3 p.d _ = _; unfold termB; rw [if_neg hc, if_neg (by rintro ⟨_, h⟩; omega), if_pos ⟨by decide, h1⟩]
                have h1b : (p.d == -1) = true := by simpa using h1
                clear hc h1
                go_wp2_with fail
                all_goals try (exfalso; omega)
                refine (unit_calls 3 (by omega) _).mono ?_
                rintro e w2 ⟨rfl, hb2⟩
                have hb := bt hb2 hb hb.size
                clear hb2
                have hU : (bs (unitB 3)).size ≤ 2 := by rw [bs_size]; exact unitB_len _
                generalize hUe : bs (unitB 3) = U at *
                have HU := Lib.hid hUe
                clear hUe
                go_wp2_with fail
                all_goals try (exfalso; omega)
                go_roundg (4 - (3 + 1))
                case measure => omega
                case rel =>
                  have hl2 := itoa_len Hb.out
                  have hl3 := unitB_len 3
                  refine ⟨3 + 1, rfl, by omega, ?_, rfl, ?_, hb⟩
                  · show Value.string (bs (termsN p 3) ++ bs [45] ++ U) = _
                    rw [He.out, ← HU.out, bs_append, bs_append]
                  · rw [He.out]; simp only [List.length_append, List.length_cons, List.length_nil]; omega
              · have He : Hid (termsN p (3 + 1) = ((termsN p 3 ++ Lib.itoa p.d) ++ unitB 3)) := by show termB 3 p.d _ = _; unfold termB; rw [if_neg hc, if_neg (by rintro ⟨_, h⟩; omega), if_neg (by rintro ⟨_, h⟩; omega), if_neg (by rintro ⟨h, _⟩; omega)]
                have h1b : (p.d == -1) = false := by simpa using h1
                clear hc h1
                go_wp2_with fail
                all_goals try (exfalso; omega)
                refine (Itoa_calls _ (by have := Hb.out; omega) _ (HT.out.below hb)).mono ?_
                rintro e w1 ⟨rfl, hb1⟩
                have hb := bt hb1 hb hb.size
                clear hb1
                have hI : (bs (Lib.itoa p.d)).size ≤ 20 := by rw [bs_size]; exact itoa_len Hb.out
                generalize hIe : bs (Lib.itoa p.d) = I at *
                have HI := Lib.hid hIe
                clear hIe
                go_wp2_with fail
                all_goals try (exfalso; omega)
                refine (unit_calls 3 (by omega) _).mono ?_
                rintro e w2 ⟨rfl, hb2⟩
                have hb := bt hb2 hb hb.size
                clear hb2
                have hU : (bs (unitB 3)).size ≤ 2 := by rw [bs_size]; exact unitB_len _
                generalize hUe : bs (unitB 3) = U at *
                have HU := Lib.hid hUe
                clear hUe
                go_wp2_with fail
                all_goals try (exfalso; omega)
                go_roundg (4 - (3 + 1))
                case measure => omega
                case rel =>
                  have hl2 := itoa_len Hb.out
                  have hl3 := unitB_len 3
                  refine ⟨3 + 1, rfl, by omega, ?_, rfl, ?_, hb⟩
                  · show Value.string (bs (termsN p 3) ++ I ++ U) = _
                    rw [He.out, ← HU.out, ← HI.out, bs_append, bs_append]
                  · rw [He.out]; simp only [List.length_append]; omega
      · obtain rfl : k = 4 := by omega
        go_wp2_with fail
        go_ret
        exact ⟨rfl, hb⟩
    · have HE : Hid (termsN p k = []) := by
        rw [bs_empty] at hE; exact List.isEmpty_iff.1 hE
      rcases Nat.lt_or_ge k 4 with hlt | hge
      · match k, hlt with
        | 0, _ =>
          have Hb : Hid (-1073741824 ≤ p.a ∧ p.a ≤ 1073741824) := Hp.out.1
          have hb1 : -1073741824 ≤ p.a := Hb.out.1
          have hb2 : p.a ≤ 1073741824 := Hb.out.2
          by_cases hc : p.a = 0
          · go_wp2_with fail
            go_roundg (4 - (0 + 1))
            case measure => omega
            case rel =>
              have he : termsN p (0 + 1) = termsN p 0 := by show termB 0 p.a _ = _; unfold termB; rw [if_pos hc]
              exact ⟨0 + 1, rfl, by omega, by rw [he], rfl, by rw [he]; omega, hb⟩
          · have hc0 : (p.a == 0) = false := by simpa using hc
            by_cases hpos : 0 < p.a
            · have He : Hid (termsN p (0 + 1) = ((termsN p 0 ++ Lib.itoa p.a) ++ unitB 0)) := by show termB 0 p.a _ = _; unfold termB; rw [if_neg hc, if_neg (by rintro ⟨h, _⟩; omega), if_neg (by rintro ⟨h, _⟩; omega), if_neg (by rintro ⟨_, h⟩; exact h HE.out)]
              clear hc
              go_wp2_with fail
              all_goals try (exfalso; omega)
              refine (Itoa_calls _ (by have := Hb.out; omega) _ (HT.out.below hb)).mono ?_
              rintro e w1 ⟨rfl, hb1⟩
              have hb := bt hb1 hb hb.size
              clear hb1
              have hI : (bs (Lib.itoa p.a)).size ≤ 20 := by rw [bs_size]; exact itoa_len Hb.out
              generalize hIe : bs (Lib.itoa p.a) = I at *
              have HI := Lib.hid hIe
              clear hIe
              go_wp2_with fail
              all_goals try (exfalso; omega)
              refine (unit_calls 0 (by omega) _).mono ?_
              rintro e w2 ⟨rfl, hb2⟩
              have hb := bt hb2 hb hb.size
              clear hb2
              have hU : (bs (unitB 0)).size ≤ 2 := by rw [bs_size]; exact unitB_len _
              generalize hUe : bs (unitB 0) = U at *
              have HU := Lib.hid hUe
              clear hUe
              go_wp2_with fail
              all_goals try (exfalso; omega)
              go_roundg (4 - (0 + 1))
              case measure => omega
              case rel =>
                have hl2 := itoa_len Hb.out
                have hl3 := unitB_len 0
                refine ⟨0 + 1, rfl, by omega, ?_, rfl, ?_, hb⟩
                · show Value.string (bs (termsN p 0) ++ I ++ U) = _
                  rw [He.out, ← HU.out, ← HI.out, bs_append, bs_append]
                · rw [He.out]; simp only [List.length_append]; omega
            · have He : Hid (termsN p (0 + 1) = ((termsN p 0 ++ Lib.itoa p.a) ++ unitB 0)) := by show termB 0 p.a _ = _; unfold termB; rw [if_neg hc, if_neg (by rintro ⟨h, _⟩; omega), if_neg (by rintro ⟨h, _⟩; omega), if_neg (by rintro ⟨h, _⟩; omega)]
              clear hc
              go_wp2_with fail
              all_goals try (exfalso; omega)
              refine (Itoa_calls _ (by have := Hb.out; omega) _ (HT.out.below hb)).mono ?_
              rintro e w1 ⟨rfl, hb1⟩
              have hb := bt hb1 hb hb.size
              clear hb1
              have hI : (bs (Lib.itoa p.a)).size ≤ 20 := by rw [bs_size]; exact itoa_len Hb.out
              generalize hIe : bs (Lib.itoa p.a) = I at *
              have HI := Lib.hid hIe
              clear hIe
              go_wp2_with fail
              all_goals try (exfalso; omega)
              refine (unit_calls 0 (by omega) _).mono ?_
              rintro e w2 ⟨rfl, hb2⟩
              have hb := bt hb2 hb hb.size
              clear hb2
              have hU : (bs (unitB 0)).size ≤ 2 := by rw [bs_size]; exact unitB_len _
              generalize hUe : bs (unitB 0) = U at *
              have HU := Lib.hid hUe
              clear hUe
              go_wp2_with fail
              all_goals try (exfalso; omega)
              go_roundg (4 - (0 + 1))
              case measure => omega
              case rel =>
                have hl2 := itoa_len Hb.out
                have hl3 := unitB_len 0
                refine ⟨0 + 1, rfl, by omega, ?_, rfl, ?_, hb⟩
                · show Value.string (bs (termsN p 0) ++ I ++ U) = _
                  rw [He.out, ← HU.out, ← HI.out, bs_append, bs_append]
                · rw [He.out]; simp only [List.length_append]; omega
        | 1, _ =>
          have Hb : Hid (-1073741824 ≤ p.b ∧ p.b ≤ 1073741824) := Hp.out.2.1
          have hb1 : -1073741824 ≤ p.b := Hb.out.1
          have hb2 : p.b ≤ 1073741824 := Hb.out.2
          by_cases hc : p.b = 0
          · go_wp2_with fail
            go_roundg (4 - (1 + 1))
            case measure => omega
            case rel =>
              have he : termsN p (1 + 1) = termsN p 1 := by show termB 1 p.b _ = _; unfold termB; rw [if_pos hc]
              exact ⟨1 + 1, rfl, by omega, by rw [he], rfl, by rw [he]; omega, hb⟩
          · have hc0 : (p.b == 0) = false := by simpa using hc
            by_cases hpos : 0 < p.b
            · by_cases h1 : p.b = 1
              · have He : Hid (termsN p (1 + 1) = (termsN p 1 ++ unitB 1)) := by show termB 1 p.b _ = _; unfold termB; rw [if_neg hc, if_pos ⟨by decide, h1⟩, if_neg (by rintro ⟨_, h⟩; exact h HE.out)]
                have h1b : (p.b == 1) = true := by simpa using h1
                clear hc h1
                go_wp2_with fail
                all_goals try (exfalso; omega)
                refine (unit_calls 1 (by omega) _).mono ?_
                rintro e w2 ⟨rfl, hb2⟩
                have hb := bt hb2 hb hb.size
                clear hb2
                have hU : (bs (unitB 1)).size ≤ 2 := by rw [bs_size]; exact unitB_len _
                generalize hUe : bs (unitB 1) = U at *
                have HU := Lib.hid hUe
                clear hUe
                go_wp2_with fail
                all_goals try (exfalso; omega)
                go_roundg (4 - (1 + 1))
                case measure => omega
                case rel =>
                  have hl2 := itoa_len Hb.out
                  have hl3 := unitB_len 1
                  refine ⟨1 + 1, rfl, by omega, ?_, rfl, ?_, hb⟩
                  · show Value.string (bs (termsN p 1) ++ U) = _
                    rw [He.out, ← HU.out, bs_append]
                  · rw [He.out]; simp only [List.length_append]; omega
              · have He : Hid (termsN p (1 + 1) = ((termsN p 1 ++ Lib.itoa p.b) ++ unitB 1)) := by show termB 1 p.b _ = _; unfold termB; rw [if_neg hc, if_neg (by rintro ⟨_, h⟩; omega), if_neg (by rintro ⟨_, h⟩; omega), if_neg (by rintro ⟨_, h⟩; exact h HE.out)]
                have h1b : (p.b == 1) = false := by simpa using h1
                clear hc h1
                go_wp2_with fail
                all_goals try (exfalso; omega)
                refine (Itoa_calls _ (by have := Hb.out; omega) _ (HT.out.below hb)).mono ?_
                rintro e w1 ⟨rfl, hb1⟩
                have hb := bt hb1 hb hb.size
                clear hb1
                have hI : (bs (Lib.itoa p.b)).size ≤ 20 := by rw [bs_size]; exact itoa_len Hb.out
                generalize hIe : bs (Lib.itoa p.b) = I at *
                have HI := Lib.hid hIe
                clear hIe
                go_wp2_with fail
                all_goals try (exfalso; omega)
                refine (unit_calls 1 (by omega) _).mono ?_
                rintro e w2 ⟨rfl, hb2⟩
                have hb := bt hb2 hb hb.size
                clear hb2
                have hU : (bs (unitB 1)).size ≤ 2 := by rw [bs_size]; exact unitB_len _
                generalize hUe : bs (unitB 1) = U at *
                have HU := Lib.hid hUe
                clear hUe
                go_wp2_with fail
                all_goals try (exfalso; omega)
                go_roundg (4 - (1 + 1))
                case measure => omega
                case rel =>
                  have hl2 := itoa_len Hb.out
                  have hl3 := unitB_len 1
                  refine ⟨1 + 1, rfl, by omega, ?_, rfl, ?_, hb⟩
                  · show Value.string (bs (termsN p 1) ++ I ++ U) = _
                    rw [He.out, ← HU.out, ← HI.out, bs_append, bs_append]
                  · rw [He.out]; simp only [List.length_append]; omega
            · by_cases h1 : p.b = -1
              · have He : Hid (termsN p (1 + 1) = ((termsN p 1 ++ [45]) ++ unitB 1)) := by show termB 1 p.b _ = _; unfold termB; rw [if_neg hc, if_neg (by rintro ⟨_, h⟩; omega), if_pos ⟨by decide, h1⟩]
                have h1b : (p.b == -1) = true := by simpa using h1
                clear hc h1
                go_wp2_with fail
                all_goals try (exfalso; omega)
                refine (unit_calls 1 (by omega) _).mono ?_
                rintro e w2 ⟨rfl, hb2⟩
                have hb := bt hb2 hb hb.size
                clear hb2
                have hU : (bs (unitB 1)).size ≤ 2 := by rw [bs_size]; exact unitB_len _
                generalize hUe : bs (unitB 1) = U at *
                have HU := Lib.hid hUe
                clear hUe
                go_wp2_with fail
                all_goals try (exfalso; omega)
                go_roundg (4 - (1 + 1))
                case measure => omega
                case rel =>
                  have hl2 := itoa_len Hb.out
                  have hl3 := unitB_len 1
                  refine ⟨1 + 1, rfl, by omega, ?_, rfl, ?_, hb⟩
                  · show Value.string (bs (termsN p 1) ++ bs [45] ++ U) = _
                    rw [He.out, ← HU.out, bs_append, bs_append]
                  · rw [He.out]; simp only [List.length_append, List.length_cons, List.length_nil]; omega
              · have He : Hid (termsN p (1 + 1) = ((termsN p 1 ++ Lib.itoa p.b) ++ unitB 1)) := by show termB 1 p.b _ = _; unfold termB; rw [if_neg hc, if_neg (by rintro ⟨_, h⟩; omega), if_neg (by rintro ⟨_, h⟩; omega), if_neg (by rintro ⟨h, _⟩; omega)]
                have h1b : (p.b == -1) = false := by simpa using h1
                clear hc h1
                go_wp2_with fail
                all_goals try (exfalso; omega)
                refine (Itoa_calls _ (by have := Hb.out; omega) _ (HT.out.below hb)).mono ?_
                rintro e w1 ⟨rfl, hb1⟩
                have hb := bt hb1 hb hb.size
                clear hb1
                have hI : (bs (Lib.itoa p.b)).size ≤ 20 := by rw [bs_size]; exact itoa_len Hb.out
                generalize hIe : bs (Lib.itoa p.b) = I at *
                have HI := Lib.hid hIe
                clear hIe
                go_wp2_with fail
                all_goals try (exfalso; omega)
                refine (unit_calls 1 (by omega) _).mono ?_
                rintro e w2 ⟨rfl, hb2⟩
                have hb := bt hb2 hb hb.size
                clear hb2
                have hU : (bs (unitB 1)).size ≤ 2 := by rw [bs_size]; exact unitB_len _
                generalize hUe : bs (unitB 1) = U at *
                have HU := Lib.hid hUe
                clear hUe
                go_wp2_with fail
                all_goals try (exfalso; omega)
                go_roundg (4 - (1 + 1))
                case measure => omega
                case rel =>
                  have hl2 := itoa_len Hb.out
                  have hl3 := unitB_len 1
                  refine ⟨1 + 1, rfl, by omega, ?_, rfl, ?_, hb⟩
                  · show Value.string (bs (termsN p 1) ++ I ++ U) = _
                    rw [He.out, ← HU.out, ← HI.out, bs_append, bs_append]
                  · rw [He.out]; simp only [List.length_append]; omega
        | 2, _ =>
          have Hb : Hid (-1073741824 ≤ p.c ∧ p.c ≤ 1073741824) := Hp.out.2.2.1
          have hb1 : -1073741824 ≤ p.c := Hb.out.1
          have hb2 : p.c ≤ 1073741824 := Hb.out.2
          by_cases hc : p.c = 0
          · go_wp2_with fail
            go_roundg (4 - (2 + 1))
            case measure => omega
            case rel =>
              have he : termsN p (2 + 1) = termsN p 2 := by show termB 2 p.c _ = _; unfold termB; rw [if_pos hc]
              exact ⟨2 + 1, rfl, by omega, by rw [he], rfl, by rw [he]; omega, hb⟩
          · have hc0 : (p.c == 0) = false := by simpa using hc
            by_cases hpos : 0 < p.c
            · by_cases h1 : p.c = 1
              · have He : Hid (termsN p (2 + 1) = (termsN p 2 ++ unitB 2)) := by show termB 2 p.c _ = _; unfold termB; rw [if_neg hc, if_pos ⟨by decide, h1⟩, if_neg (by rintro ⟨_, h⟩; exact h HE.out)]
                have h1b : (p.c == 1) = true := by simpa using h1
                clear hc h1
                go_wp2_with fail
                all_goals try (exfalso; omega)
                refine (unit_calls 2 (by omega) _).mono ?_
                rintro e w2 ⟨rfl, hb2⟩
                have hb := bt hb2 hb hb.size
                clear hb2
                have hU : (bs (unitB 2)).size ≤ 2 := by rw [bs_size]; exact unitB_len _
                generalize hUe : bs (unitB 2) = U at *
                have HU := Lib.hid hUe
                clear hUe
                go_wp2_with fail
                all_goals try (exfalso; omega)
                go_roundg (4 - (2 + 1))
                case measure => omega
                case rel =>
                  have hl2 := itoa_len Hb.out
                  have hl3 := unitB_len 2
                  refine ⟨2 + 1, rfl, by omega, ?_, rfl, ?_, hb⟩
                  · show Value.string (bs (termsN p 2) ++ U) = _
                    rw [He.out, ← HU.out, bs_append]
                  · rw [He.out]; simp only [List.length_append]; omega
              · have He : Hid (termsN p (2 + 1) = ((termsN p 2 ++ Lib.itoa p.c) ++ unitB 2)) := by show termB 2 p.c _ = _; unfold termB; rw [if_neg hc, if_neg (by rintro ⟨_, h⟩; omega), if_neg (by rintro ⟨_, h⟩; omega), if_neg (by rintro ⟨_, h⟩; exact h HE.out)]
                have h1b : (p.c == 1) = false := by simpa using h1
                clear hc h1
                go_wp2_with fail
                all_goals try (exfalso; omega)
                refine (Itoa_calls _ (by have := Hb.out; omega) _ (HT.out.below hb)).mono ?_
                rintro e w1 ⟨rfl, hb1⟩
                have hb := bt hb1 hb hb.size
                clear hb1
                have hI : (bs (Lib.itoa p.c)).size ≤ 20 := by rw [bs_size]; exact itoa_len Hb.out
                generalize hIe : bs (Lib.itoa p.c) = I at *
                have HI := Lib.hid hIe
                clear hIe
                go_wp2_with fail
                all_goals try (exfalso; omega)
                refine (unit_calls 2 (by omega) _).mono ?_
                rintro e w2 ⟨rfl, hb2⟩
                have hb := bt hb2 hb hb.size
                clear hb2
                have hU : (bs (unitB 2)).size ≤ 2 := by rw [bs_size]; exact unitB_len _
                generalize hUe : bs (unitB 2) = U at *
                have HU := Lib.hid hUe
                clear hUe
                go_wp2_with fail
                all_goals try (exfalso; omega)
                go_roundg (4 - (2 + 1))
                case measure => omega
                case rel =>
                  have hl2 := itoa_len Hb.out
                  have hl3 := unitB_len 2
                  refine ⟨2 + 1, rfl, by omega, ?_, rfl, ?_, hb⟩
                  · show Value.string (bs (termsN p 2) ++ I ++ U) = _
                    rw [He.out, ← HU.out, ← HI.out, bs_append, bs_append]
                  · rw [He.out]; simp only [List.length_append]; omega
            · by_cases h1 : p.c = -1
              · have He : Hid (termsN p (2 + 1) = ((termsN p 2 ++ [45]) ++ unitB 2)) := by show termB 2 p.c _ = _; unfold termB; rw [if_neg hc, if_neg (by rintro ⟨_, h⟩; omega), if_pos ⟨by decide, h1⟩]
                have h1b : (p.c == -1) = true := by simpa using h1
                clear hc h1
                go_wp2_with fail
                all_goals try (exfalso; omega)
                refine (unit_calls 2 (by omega) _).mono ?_
                rintro e w2 ⟨rfl, hb2⟩
                have hb := bt hb2 hb hb.size
                clear hb2
                have hU : (bs (unitB 2)).size ≤ 2 := by rw [bs_size]; exact unitB_len _
                generalize hUe : bs (unitB 2) = U at *
                have HU := Lib.hid hUe
                clear hUe
                go_wp2_with fail
                all_goals try (exfalso; omega)
                go_roundg (4 - (2 + 1))
                case measure => omega
                case rel =>
                  have hl2 := itoa_len Hb.out
                  have hl3 := unitB_len 2
                  refine ⟨2 + 1, rfl, by omega, ?_, rfl, ?_, hb⟩
                  · show Value.string (bs (termsN p 2) ++ bs [45] ++ U) = _
                    rw [He.out, ← HU.out, bs_append, bs_append]
                  · rw [He.out]; simp only [List.length_append, List.length_cons, List.length_nil]; omega
              · have He : Hid (termsN p (2 + 1) = ((termsN p 2 ++ Lib.itoa p.c) ++ unitB 2)) := by show termB 2 p.c _ = _; unfold termB; rw [if_neg hc, if_neg (by rintro ⟨_, h⟩; omega), if_neg (by rintro ⟨_, h⟩; omega), if_neg (by rintro ⟨h, _⟩; omega)]
                have h1b : (p.c == -1) = false := by simpa using h1
                clear hc h1
                go_wp2_with fail
                all_goals try (exfalso; omega)
                refine (Itoa_calls _ (by have := Hb.out; omega) _ (HT.out.below hb)).mono ?_
                rintro e w1 ⟨rfl, hb1⟩
                have hb := bt hb1 hb hb.size
                clear hb1
                have hI : (bs (Lib.itoa p.c)).size ≤ 20 := by rw [bs_size]; exact itoa_len Hb.out
                generalize hIe : bs (Lib.itoa p.c) = I at *
                have HI := Lib.hid hIe
                clear hIe
                go_wp2_with fail
                all_goals try (exfalso; omega)
                refine (unit_calls 2 (by omega) _).mono ?_
                rintro e w2 ⟨rfl, hb2⟩
                have hb := bt hb2 hb hb.size
                clear hb2
                have hU : (bs (unitB 2)).size ≤ 2 := by rw [bs_size]; exact unitB_len _
                generalize hUe : bs (unitB 2) = U at *
                have HU := Lib.hid hUe
                clear hUe
                go_wp2_with fail
                all_goals try (exfalso; omega)
                go_roundg (4 - (2 + 1))
                case measure => omega
                case rel =>
                  have hl2 := itoa_len Hb.out
                  have hl3 := unitB_len 2
                  refine ⟨2 + 1, rfl, by omega, ?_, rfl, ?_, hb⟩
                  · show Value.string (bs (termsN p 2) ++ I ++ U) = _
                    rw [He.out, ← HU.out, ← HI.out, bs_append, bs_append]
                  · rw [He.out]; simp only [List.length_append]; omega
        | 3, _ =>
          have Hb : Hid (-1073741824 ≤ p.d ∧ p.d ≤ 1073741824) := Hp.out.2.2.2
          have hb1 : -1073741824 ≤ p.d := Hb.out.1
          have hb2 : p.d ≤ 1073741824 := Hb.out.2
          by_cases hc : p.d = 0
          · go_wp2_with fail
            go_roundg (4 - (3 + 1))
            case measure => omega
            case rel =>
              have he : termsN p (3 + 1) = termsN p 3 := by show termB 3 p.d _ = _; unfold termB; rw [if_pos hc]
              exact ⟨3 + 1, rfl, by omega, by rw [he], rfl, by rw [he]; omega, hb⟩
          · have hc0 : (p.d == 0) = false := by simpa using hc
            by_cases hpos : 0 < p.d
            · by_cases h1 : p.d = 1
              · have He : Hid (termsN p (3 + 1) = (termsN p 3 ++ unitB 3)) := by show termB 3 p.d _ = _; unfold termB; rw [if_neg hc, if_pos ⟨by decide, h1⟩, if_neg (by rintro ⟨_, h⟩; exact h HE.out)]
                have h1b : (p.d == 1) = true := by simpa using h1
                clear hc h1
                go_wp2_with fail
                all_goals try (exfalso; omega)
                refine (unit_calls 3 (by omega) _).mono ?_
                rintro e w2 ⟨rfl, hb2⟩
                have hb := bt hb2 hb hb.size
                clear hb2
                have hU : (bs (unitB 3)).size ≤ 2 := by rw [bs_size]; exact unitB_len _
                generalize hUe : bs (unitB 3) = U at *
                have HU := Lib.hid hUe
                clear hUe
                go_wp2_with fail
                all_goals try (exfalso; omega)
                go_roundg (4 - (3 + 1))
                case measure => omega
                case rel =>
                  have hl2 := itoa_len Hb.out
                  have hl3 := unitB_len 3
                  refine ⟨3 + 1, rfl, by omega, ?_, rfl, ?_, hb⟩
                  · show Value.string (bs (termsN p 3) ++ U) = _
                    rw [He.out, ← HU.out, bs_append]
                  · rw [He.out]; simp only [List.length_append]; omega
              · have He : Hid (termsN p (3 + 1) = ((termsN p 3 ++ Lib.itoa p.d) ++ unitB 3)) := by show termB 3 p.d _ = _; unfold termB; rw [if_neg hc, if_neg (by rintro ⟨_, h⟩; omega), if_neg (by rintro ⟨_, h⟩; omega), if_neg (by rintro ⟨_, h⟩; exact h HE.out)]
                have h1b : (p.d == 1) = false := by simpa using h1
                clear hc h1
                go_wp2_with fail
                all_goals try (exfalso; omega)
                refine (Itoa_calls _ (by have := Hb.out; omega) _ (HT.out.below hb)).mono ?_
                rintro e w1 ⟨rfl, hb1⟩
                have hb := bt hb1 hb hb.size
                clear hb1
                have hI : (bs (Lib.itoa p.d)).size ≤ 20 := by rw [bs_size]; exact itoa_len Hb.out
                generalize hIe : bs (Lib.itoa p.d) = I at *
                have HI := Lib.hid hIe
                clear hIe
                go_wp2_with fail
                all_goals try (exfalso; omega)
                refine (unit_calls 3 (by omega) _).mono ?_
                rintro e w2 ⟨rfl, hb2⟩
                have hb := bt hb2 hb hb.size
                clear hb2
                have hU : (bs (unitB 3)).size ≤ 2 := by rw [bs_size]; exact unitB_len _
                generalize hUe : bs (unitB 3) = U at *
                have HU := Lib.hid hUe
                clear hUe
                go_wp2_with fail
                all_goals try (exfalso; omega)
                go_roundg (4 - (3 + 1))
                case measure => omega
                case rel =>
                  have hl2 := itoa_len Hb.out
                  have hl3 := unitB_len 3
                  refine ⟨3 + 1, rfl, by omega, ?_, rfl, ?_, hb⟩
                  · show Value.string (bs (termsN p 3) ++ I ++ U) = _
                    rw [He.out, ← HU.out, ← HI.out, bs_append, bs_append]
                  · rw [He.out]; simp only [List.length_append]; omega
            · by_cases h1 : p.d = -1
              · have He : Hid (termsN p (3 + 1) = ((termsN p 3 ++ [45]) ++ unitB 3)) := by show termB 3 p.d _ = _; unfold termB; rw [if_neg hc, if_neg (by rintro ⟨_, h⟩; omega), if_pos ⟨by decide, h1⟩]
                have h1b : (p.d == -1) = true := by simpa using h1
                clear hc h1
                go_wp2_with fail
                all_goals try (exfalso; omega)
                refine (unit_calls 3 (by omega) _).mono ?_
                rintro e w2 ⟨rfl, hb2⟩
                have hb := bt hb2 hb hb.size
                clear hb2
                have hU : (bs (unitB 3)).size ≤ 2 := by rw [bs_size]; exact unitB_len _
                generalize hUe : bs (unitB 3) = U at *
                have HU := Lib.hid hUe
                clear hUe
                go_wp2_with fail
                all_goals try (exfalso; omega)
                go_roundg (4 - (3 + 1))
                case measure => omega
                case rel =>
                  have hl2 := itoa_len Hb.out
                  have hl3 := unitB_len 3
                  refine ⟨3 + 1, rfl, by omega, ?_, rfl, ?_, hb⟩
                  · show Value.string (bs (termsN p 3) ++ bs [45] ++ U) = _
                    rw [He.out, ← HU.out, bs_append, bs_append]
                  · rw [He.out]; simp only [List.length_append, List.length_cons, List.length_nil]; omega
              · have He : Hid (termsN p (3 + 1) = ((termsN p 3 ++ Lib.itoa p.d) ++ unitB 3)) := by show termB 3 p.d _ = _; unfold termB; rw [if_neg hc, if_neg (by rintro ⟨_, h⟩; omega), if_neg (by rintro ⟨_, h⟩; omega), if_neg (by rintro ⟨h, _⟩; omega)]
                have h1b : (p.d == -1) = false := by simpa using h1
                clear hc h1
                go_wp2_with fail
                all_goals try (exfalso; omega)
                refine (Itoa_calls _ (by have := Hb.out; omega) _ (HT.out.below hb)).mono ?_
                rintro e w1 ⟨rfl, hb1⟩
                have hb := bt hb1 hb hb.size
                clear hb1
                have hI : (bs (Lib.itoa p.d)).size ≤ 20 := by rw [bs_size]; exact itoa_len Hb.out
                generalize hIe : bs (Lib.itoa p.d) = I at *
                have HI := Lib.hid hIe
                clear hIe
                go_wp2_with fail
                all_goals try (exfalso; omega)
                refine (unit_calls 3 (by omega) _).mono ?_
                rintro e w2 ⟨rfl, hb2⟩
                have hb := bt hb2 hb hb.size
                clear hb2
                have hU : (bs (unitB 3)).size ≤ 2 := by rw [bs_size]; exact unitB_len _
                generalize hUe : bs (unitB 3) = U at *
                have HU := Lib.hid hUe
                clear hUe
                go_wp2_with fail
                all_goals try (exfalso; omega)
                go_roundg (4 - (3 + 1))
                case measure => omega
                case rel =>
                  have hl2 := itoa_len Hb.out
                  have hl3 := unitB_len 3
                  refine ⟨3 + 1, rfl, by omega, ?_, rfl, ?_, hb⟩
                  · show Value.string (bs (termsN p 3) ++ I ++ U) = _
                    rw [He.out, ← HU.out, ← HI.out, bs_append, bs_append]
                  · rw [He.out]; simp only [List.length_append]; omega
      · obtain rfl : k = 4 := by omega
        go_wp2_with fail
        go_ret
        exact ⟨rfl, hb⟩
end Go.Proofs.YtepdnjjfhbjcjaaGreatDoor
end
section
namespace Go.Proofs.YtepdnjjfhbjcjaaGreatDoor
open Go.RowKit
def textB (y : Nm) : List UInt8 := if termsN y.p 4 = [] then [48] else if y.k = 0 then termsN y.p 4 else ((([40] ++ termsN y.p 4) ++ [41, 47, 114]) ++ Lib.itoa y.k)
theorem termB_len (i : Nat) {c : Int} (h : -1073741824 ≤ c ∧ c ≤ 1073741824) (l : List UInt8) : (termB i c l).length ≤ l.length + 23 := by
  have h1 := itoa_len h
  have h2 := unitB_len i
  unfold termB
  repeat' split
  all_goals try simp only [List.length_append, List.length_cons, List.length_nil]
  all_goals omega
theorem terms_len {p : Pt} (hp : p.le 1073741824) : (termsN p 4).length ≤ 92 := by
  obtain ⟨h1, h2, h3, h4⟩ := hp
  have e1 := termB_len 0 h1 []
  have e2 := termB_len 1 h2 (termB 0 p.a [])
  have e3 := termB_len 2 h3 (termB 1 p.b (termB 0 p.a []))
  have e4 := termB_len 3 h4 (termB 2 p.c (termB 1 p.b (termB 0 p.a [])))
  simp only [List.length_nil] at e1
  show (termB 3 p.d (termB 2 p.c (termB 1 p.b (termB 0 p.a [])))).length ≤ 92
  omega
set_option maxRecDepth 100000 in
set_option maxHeartbeats 2000000 in
theorem text_calls (y : Nm) (hp : y.p.le 1073741824) (hk : 0 ≤ y.k ∧ y.k ≤ 60) (w : World) (ht : Tabs w) :
    Calls Tryz.prog 41 #[.agg #[.int .i64 y.p.a, .int .i64 y.p.b, .int .i64 y.p.c, .int .i64 y.p.d, .int .i64 y.k]] w fun e w' => e = .returned (.string (bs (textB y))) ∧ Below w.heap.size w w' := by
  have HT := Lib.hid ht
  have HL := Lib.hid (terms_len hp)
  have HC := Lib.hid (fun W h => terms_calls y.p hp W h)
  clear ht hp
  go_enter Tryz.func41, Tryz.ntmps41
  go_wp2_with fail
  refine (work_calls _ _ _ _ _ _).mono ?_
  rintro e w1 ⟨rfl, hb1⟩
  have hx1 : Blk w1 w.heap.size 23 #[.int .i64 y.p.a, .int .i64 y.p.b, .int .i64 y.p.c, .int .i64 y.p.d, .int .i64 y.k] := Blk.below (Blk.new w _ _) hb1 (by simp)
  have hbw1 : Below w.heap.size w w1 := bt hb1 (below1 _ _) (by simp)
  clear hb1
  go_wp2_with fail
  refine (parts_calls _ _ _ _ _ _ _).mono ?_
  rintro e w2 ⟨rfl, hb1⟩
  have hx1 := hx1.below hb1 hx1.lt
  have hbw1 := bt hb1 hbw1 hbw1.size
  clear hb1
  go_wp2_with fail
  refine (HC.out _ (HT.out.below hbw1)).mono ?_
  rintro e w3 ⟨rfl, hb1⟩
  have hx1 := hx1.below hb1 hx1.lt
  have hbw1 := bt hb1 hbw1 hbw1.size
  clear hb1
  obtain ⟨x0, x1, x2, x3, x4, xf⟩ := hx1.cells5
  have hz : (bs (termsN y.p 4)).size ≤ 92 := by rw [bs_size]; exact HL.out
  cases hE : (bs (termsN y.p 4)).toList.isEmpty
  · have hne : termsN y.p 4 ≠ [] := fun h => by rw [bs_empty, h] at hE; cases hE
    by_cases h0 : y.k = 0
    · have Hv : Hid (textB y = termsN y.p 4) := by show _ = _; unfold textB; rw [if_neg hne, if_pos h0]
      have h0b : (y.k == 0) = true := by simpa using h0
      clear h0 hne
      go_wp2_with fail
      all_goals try (exfalso; omega)
      go_ret
      exact ⟨by rw [Hv.out]; rfl, hbw1⟩
    · have Hv : Hid (textB y = ((([40] ++ termsN y.p 4) ++ [41, 47, 114]) ++ Lib.itoa y.k)) := by show _ = _; unfold textB; rw [if_neg hne, if_neg h0]
      have h0b : (y.k == 0) = false := by simpa using h0
      clear h0 hne
      go_wp2_with fail
      all_goals try (exfalso; omega)
      refine (Itoa_calls _ (by omega) _ (HT.out.below hbw1)).mono ?_
      rintro e w4 ⟨rfl, hb1⟩
      have hbw1 := bt hb1 hbw1 hbw1.size
      clear hb1
      have hI : (bs (Lib.itoa y.k)).size ≤ 20 := by rw [bs_size]; exact itoa_len (by omega)
      generalize hIe : bs (Lib.itoa y.k) = I at *
      have HI := Lib.hid hIe
      clear hIe
      go_wp2_with fail
      all_goals try (exfalso; omega)
      go_ret
      refine ⟨?_, hbw1⟩
      show Ending.returned (Value.string (bs [40] ++ bs (termsN y.p 4) ++ bs [41, 47, 114] ++ I)) = _
      rw [Hv.out, ← HI.out, bs_append, bs_append, bs_append]
  · have he : termsN y.p 4 = [] := by rw [bs_empty] at hE; exact List.isEmpty_iff.1 hE
    have Hv : Hid (textB y = [48]) := by show _ = _; unfold textB; rw [if_pos he]
    clear he
    go_wp2_with fail
    all_goals try (exfalso; omega)
    go_ret
    exact ⟨by rw [Hv.out]; rfl, hbw1⟩
def sPrint (x : Nm) : List UInt8 × Int := if x.chk = 0 then (textB (nmOf (Pt.red x.k.toNat x.p)), 0) else ([], x.chk)
theorem sLeast_ok {x : Nm} (h : x.chk = 0) : sLeast x = (nmOf (Pt.red x.k.toNat x.p), 0) := by unfold sLeast; rw [if_pos h]; exact okN_red h
theorem sLeast_not {x : Nm} (h : x.chk ≠ 0) : sLeast x = (Nm.zero, x.chk) := by unfold sLeast; rw [if_neg h]
theorem nmOf_red_ok {x : Nm} (h : x.chk = 0) : (nmOf (Pt.red x.k.toNat x.p)).p.le 1073741824 ∧ 0 ≤ (nmOf (Pt.red x.k.toNat x.p)).k ∧ (nmOf (Pt.red x.k.toNat x.p)).k ≤ 60 := by
  obtain ⟨h1, h2, h3⟩ := Nm.chk_ok h
  refine ⟨Pt.red_le _ _ h1, ?_, ?_⟩
  · show (0 : Int) ≤ ((Pt.red x.k.toNat x.p).2 : Int); omega
  · have := Pt.red_kle x.k.toNat x.p
    show ((Pt.red x.k.toNat x.p).2 : Int) ≤ 60; omega
set_option maxRecDepth 100000 in
set_option maxHeartbeats 2000000 in
theorem Print_calls (x : Nm) (w : World) (ht : Tabs w) :
    Calls Tryz.prog 16 #[.agg #[.int .i64 x.p.a, .int .i64 x.p.b, .int .i64 x.p.c, .int .i64 x.p.d, .int .i64 x.k]] w fun e w' => ∃ (s : List UInt8) (er : Int), e = .returned (.tuple #[.string (bs s), .int .i64 er]) ∧ sPrint x = (s, er) ∧ Below w.heap.size w w' := by
  have HT := Lib.hid ht
  clear ht
  go_enter Tryz.func16, Tryz.ntmps16
  go_wp2_with fail
  refine (Least_calls x _).mono ?_
  rintro e w1 ⟨y, er, rfl, hy, hb1⟩
  have hbw1 : Below w.heap.size w w1 := bt hb1 (below1 _ _) (by simp)
  clear hb1
  by_cases h0 : x.chk = 0
  · rw [sLeast_ok h0] at hy
    injection hy with hy her
    subst her
    obtain ⟨g1, g2, g3⟩ := nmOf_red_ok h0
    rw [hy] at g1 g2 g3
    have HX := Lib.hid (fun W h => text_calls y g1 ⟨g2, g3⟩ W h)
    have Hs : Hid (sPrint x = (textB y, 0)) := by show _ = _; unfold sPrint; rw [if_pos h0, hy]
    clear hy g1 g2 g3 h0
    go_wp2_with fail
    refine (HX.out _ (HT.out.below (hbw1.alloc hbw1.size _))).mono ?_
    rintro e w2 ⟨rfl, hb1⟩
    have hbw2 := bt hb1 (hbw1.alloc hbw1.size _) (by have := hbw1.size; simp; omega)
    clear hb1
    go_wp2_with fail
    go_ret2
    exact ⟨_, _, rfl, Hs.out, hbw2⟩
  · rw [sLeast_not h0] at hy
    injection hy with hy her
    have Hs : Hid (sPrint x = ([], er)) := by show _ = _; unfold sPrint; rw [if_neg h0, her]
    have h0b : (er != 0) = true := by rw [← her]; simpa using h0
    clear hy her h0
    go_wp2_with fail
    go_ret2
    exact ⟨[], er, rfl, Hs.out, hbw1.alloc hbw1.size _⟩
end Go.Proofs.YtepdnjjfhbjcjaaGreatDoor
end
section
namespace Go.Proofs.YtepdnjjfhbjcjaaGreatDoor
open Go.RowKit
def isD (b : UInt8) : Bool := decide (48 ≤ b.toNat) && decide (b.toNat ≤ 57)
def digN (l : List UInt8) : Nat := (l.takeWhile isD).length
theorem digN_le (l : List UInt8) : digN l ≤ l.length := (List.takeWhile_prefix _).length_le
theorem digN_cons_pos {b : UInt8} {l : List UInt8} (h : isD b = true) : digN (b :: l) = 1 + digN l := by unfold digN; rw [List.takeWhile_cons_of_pos h, List.length_cons]; omega
theorem digN_cons_neg {b : UInt8} {l : List UInt8} (h : isD b = false) : digN (b :: l) = 0 := by unfold digN; rw [List.takeWhile_cons_of_neg (by rw [h]; decide)]; rfl
set_option maxRecDepth 100000 in
set_option maxHeartbeats 2000000 in
theorem digits_calls (l : List UInt8) (hl : l.length ≤ 1000000) (w : World) :
    Calls Tryz.prog 60 #[.string (bs l)] w fun e w' => e = .returned (.int .i64 (digN l)) ∧ Below w.heap.size w w' := by
  have hsz : (bs l).size = l.length := bs_size l
  have hget : ∀ i (h : i < (bs l).size), (bs l)[i]'h = l[i]'(by omega) := fun i h => by simp [bs, ByteArray.getElem_eq_getElem_data]
  go_enter Tryz.func60, Tryz.ntmps60
  go_wp2_with fail
  go_step3
  go_wp2_with fail
  go_step3
  go_wp2_with fail
  go_loopw [3] (fun s3 wr => ∃ pos : Nat, s3 = .int .i64 pos ∧ pos ≤ l.length ∧ wr.heap[w.heap.size]? = some (.stringIter (bs l) pos) ∧ digN l = pos + digN (l.drop pos) ∧ Below w.heap.size w wr) (fun _ wr => l.length - wr.iterPos w.heap.size)
  case atStart =>
    refine ⟨0, rfl, Nat.zero_le _, World.iter_heap w (bs l) 0, by simp, (Below.refl _ w).alloc (Nat.le_refl _) _⟩
  case round =>
    obtain ⟨pos, rfl, hpl, hit, hdg, hbw⟩ := hrel
    by_cases hp : pos < l.length
    · have hp' : pos < (bs l).size := by omega
      have hc : l.drop pos = l[pos] :: l.drop (pos + 1) := List.drop_eq_getElem_cons hp
      have hit2 := Lib.iterAt_heap wr w.heap.size (bs l) pos (pos + (Utf8.decode (bs l) pos).2) hit
      have hbw2 := Lib.below_iterAt hbw (k := w.heap.size) (Nat.le_refl _) (bs l) (pos + (Utf8.decode (bs l) pos).2)
      have hnx : ∀ ty, (Instr.next (.pointer (some ⟨w.heap.size, 0, none⟩)) true ty).run Tryz.prog wr = _ := fun ty => Lib.run_next_any_at wr w.heap.size (bs l) pos ty hit hp'
      cases hD : isD (l[pos])
      · have Hv : Hid (digN l = pos) := by show _ = _; rw [hdg, hc, digN_cons_neg hD]; omega
        have hv : (Utf8.decode (bs l) pos).1 < 48 ∨ 57 < (Utf8.decode (bs l) pos).1 := by
          by_cases ha : ((bs l)[pos]'hp').toNat < 128
          · rw [decode_ascii (bs l) pos hp' ha, hget]
            simp [isD] at hD
            omega
          · have := (decode_high (bs l) pos hp' (by omega)).1
            omega
        generalize (Utf8.decode (bs l) pos).1 = r at *
        clear hdg hc
        by_cases h48 : r < 48
        · go_wp2_with fail
          go_ret
          exact ⟨by rw [Hv.out]; rfl, hbw2⟩
        · have h57 : 57 < r := by omega
          go_wp2_with fail
          rw [Exit.noGoto_ret]
          go_ret
          exact ⟨by rw [Hv.out]; rfl, hbw2⟩
      · simp only [isD, Bool.and_eq_true, decide_eq_true_eq] at hD
        have ha : ((bs l)[pos]'hp').toNat < 128 := by rw [hget]; omega
        have Hd : Hid (digN l = (pos + 1) + digN (l.drop (pos + 1))) := by
          show _ = _; rw [hdg, hc, digN_cons_pos (by simp [isD]; omega)]; omega
        rw [decode_ascii (bs l) pos hp' ha, hget] at hnx hit2 hbw2
        have h48 : ¬ (((l[pos]).toNat : Int) < 48) := by omega
        have h57 : ¬ ((57 : Int) < ((l[pos]).toNat : Int)) := by omega
        generalize ((l[pos]).toNat : Nat) = r at *
        clear hdg hc
        go_wp2_with fail
        refine ⟨⟨pos + 1, congrArg (Value.int .i64) (by omega), by omega, hit2, Hd.out, hbw2⟩, ?_⟩
        simp only [World.iterPos, hit2, hit]
        omega
    · have hnx : ∀ ty, (Instr.next (.pointer (some ⟨w.heap.size, 0, none⟩)) true ty).run Tryz.prog wr = _ := fun ty => Lib.run_next_end_at wr w.heap.size (bs l) pos ty hit (by omega)
      have Hv : Hid (digN l = pos) := by show _ = _; rw [hdg, List.drop_of_length_le (by omega)]; rfl
      clear hdg
      go_wp2_with fail
      rw [Exit.noGoto_ret]
      go_ret
      exact ⟨by rw [Hv.out]; rfl, hbw⟩
end Go.Proofs.YtepdnjjfhbjcjaaGreatDoor
end
section
namespace Go.Proofs.YtepdnjjfhbjcjaaGreatDoor
def decV (acc : Nat) (l : List UInt8) : Nat := l.foldl (fun a b => a * 10 + (b.toNat - 48)) acc
theorem decV_nil (acc : Nat) : decV acc [] = acc := rfl
theorem decV_cons (acc : Nat) (b : UInt8) (r : List UInt8) : decV acc (b :: r) = decV (acc * 10 + (b.toNat - 48)) r := by
  unfold decV; rw [List.foldl_cons]
theorem isD_iff (b : UInt8) : isD b = true ↔ 48 ≤ b.toNat ∧ b.toNat ≤ 57 := by simp [isD]
theorem decFrom_digits (l : List UInt8) (acc : Nat) (h : ∀ b ∈ l, isD b = true) : Lib.decFrom acc l = some (decV acc l) := by
  induction l generalizing acc with
  | nil => rfl
  | cons b r ih =>
    have hb := (isD_iff b).1 (h b (by simp))
    unfold Lib.decFrom Lib.digitVal
    rw [if_pos hb, decV_cons]
    exact ih _ (fun c hc => h c (by simp [hc]))
theorem atoi_digits (l : List UInt8) (hne : l ≠ []) (h : ∀ b ∈ l, isD b = true) : Lib.atoi l = some (decV 0 l : Int) := by
  cases l with
  | nil => exact absurd rfl hne
  | cons b r =>
    have hb := (isD_iff b).1 (h b (by simp))
    have h1 : (b == 45) = false := by rw [beq_eq_false_iff_ne]; intro e; subst e; simp at hb
    have h2 : (b == 43) = false := by rw [beq_eq_false_iff_ne]; intro e; subst e; simp at hb
    have h3 : Lib.decNat (b :: r) = some (decV 0 (b :: r)) := by
      unfold Lib.decNat
      rw [if_neg (by simp), decFrom_digits _ _ h]
    simp only [Lib.atoi, h1, h2, h3, Bool.false_eq_true, if_false, Option.map_some]
theorem decV_lt (l : List UInt8) : ∀ acc : Nat, (∀ b ∈ l, isD b = true) → decV acc l < (acc + 1) * 10 ^ l.length := by
  induction l with
  | nil => intro acc _; rw [List.length_nil, Nat.pow_zero, decV_nil]; omega
  | cons b r ih =>
    intro acc h
    have hb := (isD_iff b).1 (h b (by simp))
    have h1 := ih (acc * 10 + (b.toNat - 48)) (fun c hc => h c (by simp [hc]))
    rw [decV_cons, List.length_cons, Nat.pow_succ]
    generalize 10 ^ r.length = q at *
    have h2 : (acc * 10 + (b.toNat - 48) + 1) * q ≤ ((acc + 1) * 10) * q := Nat.mul_le_mul_right _ (by omega)
    have h3 : ((acc + 1) * 10) * q = (acc + 1) * (q * 10) := by rw [Nat.mul_assoc, Nat.mul_comm 10 q]
    exact Nat.lt_of_lt_of_le h1 (h3 ▸ h2)
theorem digN_take (l : List UInt8) (n : Nat) (h : n ≤ digN l) : ∀ b ∈ l.take n, isD b = true := by
  have h1 : l.take n = (l.takeWhile isD).take n := by
    have h2 : l = l.takeWhile isD ++ l.dropWhile isD := (List.takeWhile_append_dropWhile).symm
    conv => lhs; rw [h2]
    rw [List.take_append_of_le_length h]
  intro b hb
  rw [h1] at hb
  exact List.all_eq_true.1 (List.all_takeWhile (l := l) (p := isD)) b (List.mem_of_mem_take hb)
end Go.Proofs.YtepdnjjfhbjcjaaGreatDoor
end
section
namespace Go.Proofs.YtepdnjjfhbjcjaaGreatDoor
def termSign (l : List UInt8) : Int × List UInt8 :=
  match l with
  | [] => (1, [])
  | b :: r => if b = 45 then (-1, r) else if b = 43 then (1, r) else (1, b :: r)
def termNum (c : Int) (l : List UInt8) : Int × List UInt8 := if 0 < min (digN l) 11 then (c * decV 0 (l.take (min (digN l) 11)), l.drop (min (digN l) 11)) else (c, l)
def termUnit (c : Int) (l : List UInt8) : Nat × Int × List UInt8 :=
  if Lib.hasPrefix l [119, 51] then (3, c, l.drop 2) else if Lib.hasPrefix l [119, 50] then (2, c, l.drop 2) else if Lib.hasPrefix l [119] then (1, c, l.drop 1) else (0, c, l)
def termP (l : List UInt8) : Nat × Int × List UInt8 := termUnit (termNum (termSign l).1 (termSign l).2).1 (termNum (termSign l).1 (termSign l).2).2
def endsT : List UInt8 → Bool
  | [] => true
  | b :: _ => b == 43 || b == 45
def bodyT (i : Nat) (m : Nat) : List UInt8 := (if 0 < i ∧ m = 1 then [] else Lib.decDigits m) ++ unitB i
theorem isD_ofNat {d : Nat} (h : d < 10) : isD (UInt8.ofNat (48 + d)) = true := by
  have : (UInt8.ofNat (48 + d)).toNat = 48 + d := by simp; omega
  rw [isD_iff, this]; omega
theorem decDigits_small {u : Nat} (h : u < 10) : Lib.decDigits u = [UInt8.ofNat (48 + u)] := Lib.decDigits_one h
theorem decDigits_isD (u : Nat) : ∀ b ∈ Lib.decDigits u, isD b = true := by
  induction u using Nat.strongRecOn with
  | _ u ih =>
    by_cases h : u < 10
    · rw [decDigits_small h]
      intro b hb
      rw [List.mem_singleton] at hb
      subst hb
      exact isD_ofNat h
    · rw [Lib.decDigits, dif_neg h]
      intro b hb
      rcases List.mem_append.1 hb with hb | hb
      · exact ih _ (by omega) b hb
      · rw [List.mem_singleton] at hb
        subst hb
        exact isD_ofNat (by omega)
theorem decV_append (l r : List UInt8) (acc : Nat) : decV acc (l ++ r) = decV (decV acc l) r := by unfold decV; rw [List.foldl_append]
theorem decV_decDigits (u : Nat) : decV 0 (Lib.decDigits u) = u := by
  induction u using Nat.strongRecOn with
  | _ u ih =>
    by_cases h : u < 10
    · rw [decDigits_small h, decV_cons, decV_nil]
      have : (UInt8.ofNat (48 + u)).toNat = 48 + u := by simp; omega
      rw [this]; omega
    · rw [Lib.decDigits, dif_neg h, decV_append, ih _ (by omega), decV_cons, decV_nil]
      have : (UInt8.ofNat (48 + u % 10)).toNat = 48 + u % 10 := by simp; omega
      rw [this]; omega
theorem decDigits_ne (u : Nat) : Lib.decDigits u ≠ [] := by
  intro h
  have h1 := Lib.decDigits_length u
  have h2 := Lib.nDigits_pos u
  rw [h] at h1
  simp at h1
  omega
theorem digN_append {l r : List UInt8} (h : ∀ b ∈ l, isD b = true) (hr : digN r = 0) : digN (l ++ r) = l.length := by
  induction l with
  | nil => simpa using hr
  | cons b l ih =>
    rw [List.cons_append, digN_cons_pos (h b (by simp)), ih (fun c hc => h c (by simp [hc])), List.length_cons]
    omega
theorem digN_ends {r : List UInt8} (h : endsT r = true) : digN r = 0 := by
  match r, h with
  | [], _ => rfl
  | b :: r, h =>
    refine digN_cons_neg ?_
    simp only [endsT, Bool.or_eq_true, beq_iff_eq] at h
    rcases h with rfl | rfl <;> decide
theorem digN_unit (i : Nat) {r : List UInt8} (h : endsT r = true) : digN (unitB i ++ r) = 0 := by
  match i with
  | 0 => exact digN_ends h
  | 1 => exact digN_cons_neg (by decide)
  | 2 => exact digN_cons_neg (by decide)
  | n + 3 => exact digN_cons_neg (by decide)
theorem termUnit_unit (i : Nat) (hi : i < 4) (c : Int) {r : List UInt8} (h : endsT r = true) : termUnit c (unitB i ++ r) = (i, c, r) := by
  have h1 : ∀ x y : UInt8, x = 119 → Lib.hasPrefix r [x] = false ∧ Lib.hasPrefix r [x, y] = false := by
    rintro x y rfl
    match r, h with
    | [], _ => exact ⟨rfl, rfl⟩
    | b :: r, h =>
      simp only [endsT, Bool.or_eq_true, beq_iff_eq] at h
      rcases h with rfl | rfl <;> exact ⟨rfl, rfl⟩
  match i, hi with
  | 0, _ =>
    show termUnit c r = _
    unfold termUnit
    rw [(h1 119 51 rfl).2, (h1 119 50 rfl).2, (h1 119 0 rfl).1]
    rfl
  | 1, _ =>
    show termUnit c (119 :: r) = _
    have h2 : ∀ x : UInt8, x = 50 ∨ x = 51 → Lib.hasPrefix (119 :: r) [119, x] = false := by
      intro x hx
      match r, h with
      | [], _ => simp [Lib.hasPrefix]
      | b :: r, h =>
        simp only [endsT, Bool.or_eq_true, beq_iff_eq] at h
        rcases h with rfl | rfl <;> rcases hx with rfl | rfl <;> rfl
    unfold termUnit
    rw [h2 51 (.inr rfl), h2 50 (.inl rfl)]
    simp [Lib.hasPrefix]
  | 2, _ =>
    show termUnit c (119 :: 50 :: r) = _
    simp [termUnit, Lib.hasPrefix]
  | 3, _ =>
    show termUnit c (119 :: 51 :: r) = _
    simp [termUnit, Lib.hasPrefix]
theorem decDigits_len10 {m : Nat} (hm : m ≤ 1073741824) : (Lib.decDigits m).length ≤ 10 := by
  rw [Lib.decDigits_length]
  exact nDigits_le 9 m (by have : (10 : Nat) ^ (9 + 1) = 10000000000 := by decide
                           omega)
theorem termNum_body (i : Nat) (m : Nat) (hm : m ≤ 1073741824) (c : Int) {r : List UInt8} (h : endsT r = true) : termNum c (bodyT i m ++ r) = (c * m, unitB i ++ r) := by
  unfold bodyT
  by_cases h1 : 0 < i ∧ m = 1
  · rw [if_pos h1, List.nil_append]
    unfold termNum
    rw [digN_unit i h, if_neg (by decide), h1.2]
    simp
  · rw [if_neg h1, List.append_assoc]
    have e1 : digN (Lib.decDigits m ++ (unitB i ++ r)) = (Lib.decDigits m).length := digN_append (decDigits_isD m) (digN_unit i h)
    have e2 := decDigits_len10 hm
    have e3 : 0 < (Lib.decDigits m).length := List.length_pos_iff.2 (decDigits_ne m)
    unfold termNum
    rw [e1, show min (Lib.decDigits m).length 11 = (Lib.decDigits m).length by omega, if_pos e3, List.take_left, List.drop_left, decV_decDigits]
theorem bodyT_head (i m : Nat) (hm : 0 < i ∨ True) (r : List UInt8) : ∃ b l, bodyT i m ++ r = b :: l ∧ b ≠ 45 ∧ b ≠ 43 := by
  unfold bodyT
  by_cases h1 : 0 < i ∧ m = 1
  · rw [if_pos h1, List.nil_append]
    match i, h1.1 with
    | 1, _ => exact ⟨119, _, rfl, by decide, by decide⟩
    | 2, _ => exact ⟨119, _, rfl, by decide, by decide⟩
    | n + 3, _ => exact ⟨119, _, rfl, by decide, by decide⟩
  · rw [if_neg h1]
    have e1 := decDigits_ne m
    have e2 := decDigits_isD m
    cases hd : Lib.decDigits m with
    | nil => exact absurd hd e1
    | cons b l =>
      refine ⟨b, _, rfl, ?_, ?_⟩
      · rintro rfl
        have := e2 45 (by rw [hd]; simp)
        simp [isD] at this
      · rintro rfl
        have := e2 43 (by rw [hd]; simp)
        simp [isD] at this
theorem termP_neg (i : Nat) (hi : i < 4) (m : Nat) (hm : m ≤ 1073741824) {r : List UInt8} (h : endsT r = true) : termP (45 :: (bodyT i m ++ r)) = (i, -(m : Int), r) := by
  unfold termP
  have e : termSign (45 :: (bodyT i m ++ r)) = (-1, bodyT i m ++ r) := rfl
  rw [e, termNum_body i m hm _ h, termUnit_unit i hi _ h]
  simp
theorem termP_plus (i : Nat) (hi : i < 4) (m : Nat) (hm : m ≤ 1073741824) {r : List UInt8} (h : endsT r = true) : termP (43 :: (bodyT i m ++ r)) = (i, (m : Int), r) := by
  unfold termP
  have e : termSign (43 :: (bodyT i m ++ r)) = (1, bodyT i m ++ r) := rfl
  rw [e, termNum_body i m hm _ h, termUnit_unit i hi _ h]
  simp
theorem termP_bare (i : Nat) (hi : i < 4) (m : Nat) (hm : m ≤ 1073741824) {r : List UInt8} (h : endsT r = true) : termP (bodyT i m ++ r) = (i, (m : Int), r) := by
  obtain ⟨b, l, e1, e2, e3⟩ := bodyT_head i m (.inr trivial) r
  have e : termSign (bodyT i m ++ r) = (1, bodyT i m ++ r) := by
    rw [e1]; unfold termSign; simp only [if_neg e2, if_neg e3]
  unfold termP
  rw [e, termNum_body i m hm _ h, termUnit_unit i hi _ h]
  simp
def putP (p : Pt) (i : Nat) (c : Int) : Pt := match i with | 0 => ⟨c, p.b, p.c, p.d⟩ | 1 => ⟨p.a, c, p.c, p.d⟩ | 2 => ⟨p.a, p.b, c, p.d⟩ | _ => ⟨p.a, p.b, p.c, c⟩
def readT : Nat → Pt → List UInt8 → Pt
  | 0, p, _ => p
  | n + 1, p, l => if l = [] then p else readT n (putP p (termP l).1 (termP l).2.1) (termP l).2.2
def tlT : List (Nat × Int) → List UInt8
  | [] => []
  | (i, c) :: r => if c = 0 then tlT r else (if c < 0 then 45 else 43) :: (bodyT i c.natAbs ++ tlT r)
def tfT : List (Nat × Int) → List UInt8
  | [] => []
  | (i, c) :: r => if c = 0 then tfT r else if c < 0 then 45 :: (bodyT i c.natAbs ++ tlT r) else bodyT i c.natAbs ++ tlT r
theorem tlT_ends (cs : List (Nat × Int)) : endsT (tlT cs) = true := by
  induction cs with
  | nil => rfl
  | cons x r ih =>
    obtain ⟨i, c⟩ := x
    unfold tlT
    by_cases h : c = 0
    · rw [if_pos h]; exact ih
    · rw [if_neg h]
      by_cases h2 : c < 0
      · rw [if_pos h2]; rfl
      · rw [if_neg h2]; rfl
def foldP (p : Pt) : List (Nat × Int) → Pt
  | [] => p
  | (i, c) :: r => if c = 0 then foldP p r else foldP (putP p i c) r
def goodC (cs : List (Nat × Int)) : Prop := ∀ x ∈ cs, x.1 < 4 ∧ -1073741824 ≤ x.2 ∧ x.2 ≤ 1073741824
theorem readT_tl (cs : List (Nat × Int)) : ∀ (n : Nat) (p : Pt), cs.length ≤ n → goodC cs → readT n p (tlT cs) = foldP p cs := by
  induction cs with
  | nil =>
    intro n p _ _
    cases n with
    | zero => rfl
    | succ n => rfl
  | cons x r ih =>
    intro n p hn hg
    obtain ⟨i, c⟩ := x
    obtain ⟨g1, g2, g3⟩ := hg (i, c) (by simp)
    have hgr : goodC r := fun y hy => hg y (by simp [hy])
    dsimp only at g1 g2 g3
    rw [List.length_cons] at hn
    unfold tlT foldP
    by_cases h : c = 0
    · rw [if_pos h, if_pos h]; exact ih n p (by omega) hgr
    · rw [if_neg h, if_neg h]
      obtain ⟨n, rfl⟩ : ∃ m, n = m + 1 := ⟨n - 1, by omega⟩
      by_cases h2 : c < 0
      · rw [if_pos h2]
        unfold readT
        rw [if_neg (by simp), termP_neg i g1 _ (by omega) (tlT_ends r)]
        dsimp only
        rw [show -(c.natAbs : Int) = c by omega]
        exact ih n _ (by omega) hgr
      · rw [if_neg h2]
        unfold readT
        rw [if_neg (by simp), termP_plus i g1 _ (by omega) (tlT_ends r)]
        dsimp only
        rw [show (c.natAbs : Int) = c by omega]
        exact ih n _ (by omega) hgr
theorem readT_tf (cs : List (Nat × Int)) : ∀ (n : Nat) (p : Pt), cs.length ≤ n → goodC cs → readT n p (tfT cs) = foldP p cs := by
  induction cs with
  | nil =>
    intro n p _ _
    cases n with
    | zero => rfl
    | succ n => rfl
  | cons x r ih =>
    intro n p hn hg
    obtain ⟨i, c⟩ := x
    obtain ⟨g1, g2, g3⟩ := hg (i, c) (by simp)
    have hgr : goodC r := fun y hy => hg y (by simp [hy])
    dsimp only at g1 g2 g3
    rw [List.length_cons] at hn
    unfold tfT foldP
    by_cases h : c = 0
    · rw [if_pos h, if_pos h]; exact ih n p (by omega) hgr
    · rw [if_neg h, if_neg h]
      obtain ⟨n, rfl⟩ : ∃ m, n = m + 1 := ⟨n - 1, by omega⟩
      by_cases h2 : c < 0
      · rw [if_pos h2]
        unfold readT
        rw [if_neg (by simp), termP_neg i g1 _ (by omega) (tlT_ends r)]
        dsimp only
        rw [show -(c.natAbs : Int) = c by omega]
        exact readT_tl r n _ (by omega) hgr
      · rw [if_neg h2]
        obtain ⟨b, l, e1, _, _⟩ := bodyT_head i c.natAbs (.inr trivial) (tlT r)
        unfold readT
        rw [if_neg (by rw [e1]; simp), termP_bare i g1 _ (by omega) (tlT_ends r)]
        dsimp only
        rw [show (c.natAbs : Int) = c by omega]
        exact readT_tl r n _ (by omega) hgr
def csOf (p : Pt) : List (Nat × Int) := [(0, p.a), (1, p.b), (2, p.c), (3, p.d)]
theorem csOf_good {p : Pt} (h : p.le 1073741824) : goodC (csOf p) := by
  obtain ⟨h1, h2, h3, h4⟩ := h
  intro x hx
  simp only [csOf, List.mem_cons, List.not_mem_nil, or_false] at hx
  rcases hx with rfl | rfl | rfl | rfl
  · exact ⟨(by decide : 0 < 4), h1⟩
  · exact ⟨(by decide : 1 < 4), h2⟩
  · exact ⟨(by decide : 2 < 4), h3⟩
  · exact ⟨(by decide : 3 < 4), h4⟩
theorem foldP_csOf (p : Pt) : foldP Pt.zero (csOf p) = p := by
  obtain ⟨a, b, c, d⟩ := p
  simp only [csOf, foldP]
  by_cases ha : a = 0 <;> by_cases hb : b = 0 <;> by_cases hc : c = 0 <;> by_cases hd : d = 0 <;>
    simp [ha, hb, hc, hd, putP, Pt.zero]
theorem termB_eq (i : Nat) (c : Int) (out : List UInt8) : termB i c out = if c = 0 then out else out ++ ((if c < 0 then [45] else if out = [] then [] else [43]) ++ bodyT i c.natAbs) := by
  unfold termB
  by_cases h : c = 0
  · rw [if_pos h, if_pos h]
  · rw [if_neg h, if_neg h]
    unfold bodyT Lib.itoa
    by_cases h1 : 0 < i ∧ c = 1
    · obtain ⟨h1, rfl⟩ := h1
      by_cases h2 : out = [] <;> simp [h1, h2]
    · by_cases h3 : 0 < i ∧ c = -1
      · obtain ⟨h3, rfl⟩ := h3
        simp [h3]
      · rw [if_neg h1, if_neg h3, if_neg (c := 0 < i ∧ c.natAbs = 1) (by omega)]
        by_cases h4 : c < 0
        · rw [if_neg (by omega), if_pos h4, if_pos h4]
          simp
        · have e : c.toNat = c.natAbs := by omega
          by_cases h2 : out = []
          · rw [if_neg (by simp [h2]), if_neg h4, if_neg h4, if_pos h2, e]
            simp [h2]
          · rw [if_pos ⟨by omega, h2⟩, if_neg h4, if_neg h4, if_neg h2, e]
            simp
theorem termB_tl (i : Nat) (c : Int) (out : List UInt8) (h : out ≠ []) : termB i c out = out ++ tlT [(i, c)] := by
  rw [termB_eq]
  unfold tlT tlT
  by_cases h0 : c = 0
  · rw [if_pos h0, if_pos h0]; simp
  · rw [if_neg h0, if_neg h0, if_neg h]
    by_cases h1 : c < 0
    · rw [if_pos h1, if_pos h1]; simp
    · rw [if_neg h1, if_neg h1]; simp
theorem tlT_append (cs ds : List (Nat × Int)) : tlT (cs ++ ds) = tlT cs ++ tlT ds := by
  induction cs with
  | nil => rfl
  | cons x r ih =>
    obtain ⟨i, c⟩ := x
    rw [List.cons_append]
    unfold tlT
    by_cases h : c = 0
    · rw [if_pos h, if_pos h, ih]; cases ds <;> rfl
    · rw [if_neg h, if_neg h, ih]
      simp
      cases ds <;> rfl
theorem tfT_snoc (cs : List (Nat × Int)) (i : Nat) (c : Int) : tfT (cs ++ [(i, c)]) = termB i c (tfT cs) := by
  induction cs with
  | nil =>
    rw [List.nil_append, termB_eq]
    unfold tfT tfT tlT
    by_cases h : c = 0
    · rw [if_pos h, if_pos h]
    · rw [if_neg h, if_neg h]
      by_cases h1 : c < 0
      · rw [if_pos h1, if_pos h1]; simp
      · rw [if_neg h1, if_neg h1]; simp
  | cons x r ih =>
    obtain ⟨j, d⟩ := x
    rw [List.cons_append]
    unfold tfT
    by_cases h : d = 0
    · rw [if_pos h, if_pos h]; exact ih
    · rw [if_neg h, if_neg h]
      by_cases h1 : d < 0
      · rw [if_pos h1, if_pos h1, termB_tl _ _ _ (by simp), tlT_append]
        simp
      · obtain ⟨b, l, e1, _, _⟩ := bodyT_head j d.natAbs (.inr trivial) (tlT r)
        rw [if_neg h1, if_neg h1, termB_tl _ _ _ (by rw [e1]; simp), tlT_append]
        simp
theorem termsN_eq (p : Pt) : termsN p 4 = tfT (csOf p) := by
  show termB 3 p.d (termB 2 p.c (termB 1 p.b (termB 0 p.a []))) = _
  have e : csOf p = ((([] ++ [(0, p.a)]) ++ [(1, p.b)]) ++ [(2, p.c)]) ++ [(3, p.d)] := rfl
  rw [e, tfT_snoc, tfT_snoc, tfT_snoc, tfT_snoc]
  rfl
theorem readT_terms {p : Pt} (h : p.le 1073741824) : readT 4 Pt.zero (termsN p 4) = p := by
  rw [termsN_eq, readT_tf _ 4 _ (Nat.le_refl _) (csOf_good h), foldP_csOf]
def inT (b : UInt8) : Bool := isD b || b == 43 || b == 45 || b == 119
theorem bodyT_in (i m : Nat) : ∀ b ∈ bodyT i m, inT b = true := by
  intro b hb
  unfold bodyT at hb
  rcases List.mem_append.1 hb with hb | hb
  · by_cases h1 : 0 < i ∧ m = 1
    · rw [if_pos h1] at hb; cases hb
    · rw [if_neg h1] at hb
      have := decDigits_isD m b hb
      simp [inT, this]
  · match i with
    | 0 => cases hb
    | 1 => simp [unitB] at hb; subst hb; decide
    | 2 => simp [unitB] at hb; rcases hb with rfl | rfl <;> decide
    | n + 3 => simp [unitB] at hb; rcases hb with rfl | rfl <;> decide
theorem tlT_in (cs : List (Nat × Int)) : ∀ b ∈ tlT cs, inT b = true := by
  induction cs with
  | nil => intro b hb; cases hb
  | cons x r ih =>
    obtain ⟨i, c⟩ := x
    intro b hb
    unfold tlT at hb
    by_cases h : c = 0
    · rw [if_pos h] at hb; exact ih b hb
    · rw [if_neg h] at hb
      rcases List.mem_cons.1 hb with rfl | hb
      · by_cases h2 : c < 0 <;> simp [h2, inT]
      · rcases List.mem_append.1 hb with hb | hb
        · exact bodyT_in _ _ b hb
        · exact ih b hb
theorem tfT_in (cs : List (Nat × Int)) : ∀ b ∈ tfT cs, inT b = true := by
  induction cs with
  | nil => intro b hb; cases hb
  | cons x r ih =>
    obtain ⟨i, c⟩ := x
    intro b hb
    unfold tfT at hb
    by_cases h : c = 0
    · rw [if_pos h] at hb; exact ih b hb
    · rw [if_neg h] at hb
      by_cases h2 : c < 0
      · rw [if_pos h2] at hb
        rcases List.mem_cons.1 hb with rfl | hb
        · decide
        · rcases List.mem_append.1 hb with hb | hb
          · exact bodyT_in _ _ b hb
          · exact tlT_in r b hb
      · rw [if_neg h2] at hb
        rcases List.mem_append.1 hb with hb | hb
        · exact bodyT_in _ _ b hb
        · exact tlT_in r b hb
theorem index_terms (l r : List UInt8) (h : ∀ b ∈ l, inT b = true) : Lib.index (l ++ ([41, 47, 114] ++ r)) [41, 47, 114] = (l.length : Int) := by
  refine Lib.index_first (by simp) ?_ ?_
  · unfold Lib.occAt
    rw [List.drop_left]
    simp
  · intro j hj
    unfold Lib.occAt
    have e : (l ++ ([41, 47, 114] ++ r)).drop j = l[j] :: ((l ++ ([41, 47, 114] ++ r)).drop (j + 1)) := by
      rw [List.drop_eq_getElem_cons (by simp; omega)]
      congr 1
      rw [List.getElem_append_left hj]
    rw [e]
    have := h l[j] (List.getElem_mem hj)
    have hne : l[j] ≠ 41 := fun e => by rw [e] at this; simp [inT, isD] at this
    simp [List.isPrefixOf]
    intro h41
    exact absurd h41.symm hne
end Go.Proofs.YtepdnjjfhbjcjaaGreatDoor
end
section
namespace Go.Proofs.YtepdnjjfhbjcjaaGreatDoor
open Go.RowKit
theorem bs_extract (l : List UInt8) (a b : Nat) : (bs l).extract a b = bs ((l.drop a).take (b - a)) := by
  have h := Lib.extract_data (bs l) a b
  have h2 : (bs l).data.toList = l := by simp [bs]
  rw [h2] at h
  rw [← h]
  rfl
theorem bs_list (l : List UInt8) : (bs l).data.toList = l := by simp [bs]
theorem Cut_calls (l p : List UInt8) (w : World) :
    Calls Tryz.prog 58 #[.string (bs l), .string (bs p)] w fun e w' => e = .returned (.tuple #[.string (bs (Lib.trimPrefix l p)), .bool (Lib.hasPrefix l p)]) ∧ w = w' :=
  (Tryz.strings_CutPrefix (bs l) (bs p) w).mono fun _ _ ⟨he, hw⟩ => ⟨by rw [he, bs_list, bs_list]; rfl, hw.symm⟩
theorem Atoi_calls (l : List UInt8) (hne : l ≠ []) (hd : ∀ b ∈ l, isD b = true) (hl : l.length ≤ 18) (w : World) :
    Calls Tryz.prog 61 #[.string (bs l)] w fun e w' => e = .returned (.tuple #[.int .i64 (decV 0 l), .nilIface]) ∧ Below w.heap.size w w' :=
  (Tryz.strconv_Atoi (bs l) (decV 0 l) (by rw [bs_size]; exact hl) (by rw [bs_list]; exact atoi_digits l hne hd) w).mono fun _ _ ⟨he, t, hw⟩ => ⟨he, by rw [hw]; exact Lib.bytesWorld_below _ _ _⟩
def tuF : Nat → Int → List UInt8 → Nat × Int × List UInt8
  | 0, c, l => (0, c, l)
  | k + 1, c, l => if Lib.hasPrefix l (unitB (k + 1)) then (k + 1, c, l.drop (unitB (k + 1)).length) else tuF k c l
def signB : List UInt8 → Bool
  | [] => false
  | b :: _ => b == 45 || b == 43
theorem belowN {B : Nat} {a w : World} (h : Below B a w) (n : Nat) : Below B a (w.drewN n) := h.trans ⟨rfl, rfl, rfl, Nat.le_refl _, fun _ _ => rfl⟩
set_option maxRecDepth 100000 in
set_option maxHeartbeats 4000000 in
theorem term_calls (l : List UInt8) (hl : l.length ≤ 1000) (w : World) :
    Calls Tryz.prog 62 #[.string (bs l)] w fun e w' => e = .returned (.tuple #[.int .i64 (termP l).1, .int .i64 (termP l).2.1, .string (bs (termP l).2.2)]) ∧ Below w.heap.size w w' := by
  have hz : (bs l).size = l.length := bs_size l
  go_enter Tryz.func62, Tryz.ntmps62
  go_upto_region 2 with fail
  go_cut [22] (fun s22 wx => s22 = .bool (signB l) ∧ w = wx)
  case first =>
    cases l with
    | nil =>
      have he : (bs []).toList.isEmpty = true := by rw [bs_empty]; rfl
      go_wp2_with fail
      go_meet
      exact ⟨rfl, rfl⟩
    | cons b r =>
      have he : (bs (b :: r)).toList.isEmpty = false := by rw [bs_empty]; rfl
      have hg : ∀ h, (bs (b :: r))[0]'h = b := fun h => rfl
      by_cases h45 : b = 45
      · subst h45
        go_wp2_with fail
        go_meet
        exact ⟨rfl, rfl⟩
      · have h45b : ((b.toNat : Int) == 45) = false := by
          rw [beq_eq_false_iff_ne]; intro h; exact h45 (UInt8.toNat_inj.1 (by simpa using Int.ofNat_inj.1 h))
        have h45c : (b == 45) = false := by rw [beq_eq_false_iff_ne]; exact h45
        by_cases h43 : b = 43
        · subst h43
          go_wp2_with fail
          go_meet
          exact ⟨rfl, rfl⟩
        · have h43b : ((b.toNat : Int) == 43) = false := by
            rw [beq_eq_false_iff_ne]; intro h; exact h43 (UInt8.toNat_inj.1 (by simpa using Int.ofNat_inj.1 h))
          have h43c : (b == 43) = false := by rw [beq_eq_false_iff_ne]; exact h43
          have Hv : Hid (signB (b :: r) = false) := by show _ = _; simp [signB, h45c, h43c]
          clear h45 h43 h45c h43c
          go_wp2_with fail
          go_meet
          exact ⟨by rw [Hv.out], rfl⟩
  case rest =>
    obtain ⟨rfl, rfl⟩ := hcut
    go_upto_if 22 with fail
    go_cut [0, 3] (fun s0 s3 wx => ∃ (c : Int) (m : List UInt8), termSign l = (c, m) ∧ m.length ≤ 1000 ∧ s0 = .string (bs m) ∧ s3 = .int .i64 c ∧ (c = 1 ∨ c = -1) ∧ w = wx)
    case first =>
      match l, hl with
      | [], _ =>
        have Hv : Hid (signB [] = false) := rfl
        go_wp2_with fail
        go_meet
        exact ⟨1, [], rfl, by simp, rfl, rfl, .inl rfl, rfl⟩
      | b :: r, hl =>
        have hg : ∀ h, (bs (b :: r))[0]'h = b := fun h => rfl
        have hx : (bs (b :: r)).extract 1 (r.length + 1) = bs r := by rw [bs_extract]; simp
        by_cases h45 : b = 45
        · subst h45
          have h : signB (45 :: r) = true := rfl
          go_wp2_with fail
          go_meet
          exact ⟨-1, r, rfl, by simp at hl; omega, rfl, rfl, .inr rfl, rfl⟩
        · by_cases h43 : b = 43
          · subst h43
            have h : signB (43 :: r) = true := rfl
            go_wp2_with fail
            go_meet
            exact ⟨1, r, rfl, by simp at hl; omega, rfl, rfl, .inl rfl, rfl⟩
          · rw [show signB (b :: r) = false from by simp [signB, h45, h43]]
            clear hg hx
            have Hs : Hid (termSign (b :: r) = (1, b :: r)) := by show _ = _; simp [termSign, h45, h43]
            clear h45 h43
            go_wp2_with fail
            go_meet
            exact ⟨1, b :: r, Hs.out, hl, rfl, rfl, .inl rfl, rfl⟩
    case rest =>
      obtain ⟨c, m, hs, hm, rfl, rfl, hc, rfl⟩ := hcut
      have Hs : Hid (termP l = termUnit (termNum c m).1 (termNum c m).2) := by show _ = _; unfold termP; rw [hs]
      clear hs hl hz
      have hz : (bs m).size = m.length := bs_size m
      go_wp2_with fail
      refine (digits_calls m (by omega) _).mono ?_
      rintro e w1 ⟨rfl, hbw⟩
      have hd := digN_le m
      go_upto_if 33 with fail
      go_cut [0, 3, 5] (fun s0 s3 _ wx => ∃ (c' : Int) (m' : List UInt8), termNum c m = (c', m') ∧ m'.length ≤ 1000 ∧ s0 = .string (bs m') ∧ s3 = .int .i64 c' ∧ (-1000000000000 ≤ c' ∧ c' ≤ 1000000000000) ∧ Below w.heap.size w wx)
      case first =>
        by_cases h0 : 0 < digN m
        · obtain ⟨n, hn⟩ : ∃ n : Nat, n = min (digN m) 11 := ⟨_, rfl⟩
          have hmin : min (digN m : Int) 11 = (n : Int) := by omega
          have Hn : Hid (termNum c m = (c * decV 0 (m.take n), m.drop n)) := by show _ = _; unfold termNum; rw [← hn, if_pos (by omega)]
          have hx1 : (bs m).extract 0 n = bs (m.take n) := by rw [bs_extract]; simp
          have hx2 : (bs m).extract n m.length = bs (m.drop n) := by rw [bs_extract, List.take_of_length_le (by simp)]
          have HA : Hid (∀ W, Calls Tryz.prog 61 #[.string (bs (m.take n))] W fun e w' => e = .returned (.tuple #[.int .i64 (decV 0 (m.take n)), .nilIface]) ∧ Below W.heap.size W w') :=
            fun W => Atoi_calls (m.take n) (fun h => by have h2 := congrArg List.length h; rw [List.length_take] at h2; simp only [List.length_nil] at h2; omega) (digN_take m n (by omega)) (by simp; omega) W
          have hv : decV 0 (m.take n) < 100000000000 := by
            have h1 := decV_lt (m.take n) 0 (digN_take m n (by omega))
            have h2 : (10 : Nat) ^ (m.take n).length ≤ 10 ^ 11 := Nat.pow_le_pow_right (by decide) (by simp; omega)
            have h3 : (10 : Nat) ^ 11 = 100000000000 := by decide
            omega
          have n0 : 0 < n := by omega
          have n1 : n ≤ m.length := by omega
          clear hn h0 hd
          generalize decV 0 (m.take n) = v at *
          go_wp2_with fail
          refine (HA.out _).mono ?_
          rintro e w2 ⟨rfl, hb2⟩
          have hbw := bt hb2 hbw hbw.size
          clear hb2
          rcases hc with rfl | rfl
          · go_wp2_with fail
            go_quiet (fail)
            go_wp2_with fail
            go_meet
            exact ⟨1 * (v : Int), m.drop n, Hn.out, by simp; omega, rfl, by simp, by omega, belowN hbw nq⟩
          · go_wp2_with fail
            go_quiet (fail)
            go_wp2_with fail
            go_meet
            exact ⟨-1 * (v : Int), m.drop n, Hn.out, by simp; omega, rfl, by simp, by omega, belowN hbw nq⟩
        · have Hn : Hid (termNum c m = (c, m)) := by show _ = _; unfold termNum; rw [if_neg (by omega)]
          have hmin : min (digN m : Int) 11 = 0 := by omega
          clear h0 hd
          go_wp2_with fail
          go_meet
          exact ⟨c, m, Hn.out, hm, rfl, rfl, by omega, hbw⟩
      case rest =>
        clear hz hm hd hbw
        obtain ⟨c2, m2, hn, hm2, rfl, rfl, hc2, hbw⟩ := hcut
        have Ht : Hid (termP l = tuF 3 c2 m2) := by show _ = _; rw [Hs.out, hn]; rfl
        clear hn Hs hc
        go_wp2_with fail
        go_loopg [3, 8, 9, 10] 3 (fun g s3 s8 _ _ wr => ∃ k : Nat, k ≤ 3 ∧ g = k ∧ s3 = .int .i64 c2 ∧ s8 = .int .i64 k ∧ termP l = tuF k c2 m2 ∧ Below w.heap.size w wr)
        case atStart => exact ⟨3, by omega, rfl, rfl, rfl, Ht.out, hbw⟩
        case round =>
          clear Ht hbw
          obtain ⟨k, hk, rfl, rfl, rfl, ht, hbw⟩ := hrel
          have Ht := Lib.hid ht
          clear ht
          cases gk with
          | zero =>
            go_wp2_with fail
            refine bodyPost_ret (v := .tuple #[.int .i64 0, .int .i64 c2, .string (bs m2)]) (by simp [results, Tryz.results62, go_sem]) rfl ⟨?_, hbw⟩
            rw [Ht.out]; rfl
          | succ k =>
            go_wp2_with fail
            refine (unit_calls (k + 1) (by omega) _).mono ?_
            rintro e w2 ⟨rfl, hb2⟩
            have hbw := bt hb2 hbw hbw.size
            clear hb2
            go_wp2_with fail
            refine (Cut_calls m2 (unitB (k + 1)) _).mono ?_
            rintro e w3 ⟨rfl, rfl⟩
            cases hp : Lib.hasPrefix m2 (unitB (k + 1))
            · have Hr : Hid (termP l = tuF k c2 m2) := by show _ = _; rw [Ht.out]; show (if Lib.hasPrefix m2 (unitB (k + 1)) = true then _ else _) = _; rw [hp]; rfl
              clear hp Ht
              go_wp2_with fail
              go_roundg k
              case measure => omega
              case rel => exact ⟨k, by omega, rfl, rfl, by go_num, Hr.out, hbw⟩
            · have Hr : Hid (termP l = (k + 1, c2, Lib.trimPrefix m2 (unitB (k + 1)))) := by show _ = _; rw [Ht.out]; unfold tuF Lib.trimPrefix; rw [hp]; rfl
              clear hp Ht
              go_wp2_with fail
              refine bodyPost_ret (v := .tuple #[.int .i64 ((k : Int) + 1), .int .i64 c2, .string (bs (Lib.trimPrefix m2 (unitB (k + 1))))]) (by simp [results, Tryz.results62, go_sem]) rfl ⟨?_, hbw⟩
              rw [Hr.out]; rfl
end Go.Proofs.YtepdnjjfhbjcjaaGreatDoor
end
