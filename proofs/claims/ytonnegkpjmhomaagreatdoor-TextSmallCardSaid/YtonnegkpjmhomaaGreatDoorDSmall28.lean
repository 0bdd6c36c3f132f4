import Derived.Deep.RegionHeld3
import Derived.Test.YtonnegkpjmhomaaGreatDoorDSmall8
import Derived.Test.YtonnegkpjmhomaaGreatDoorDSmall26
import Derived.Test.YtonnegkpjmhomaaGreatDoorDSmall27
set_option linter.all false
section
set_option linter.all false
namespace Go.Proofs.YtonnegkpjmhomaaGreatDoor
open Go.RowKit
theorem ext_le (s : ByteArray) (a b : Nat) : (s.extract a b).size ≤ s.size := by
  rw [ByteArray.size_extract]; omega
theorem cat3_le {a b c : ByteArray} (ha : a.size ≤ 100) (hb : b.size ≤ 100) (hc : c.size ≤ 100) : (a ++ b ++ c).size ≤ 140737488351232 := by
  rw [ByteArray.size_append, ByteArray.size_append]; omega
theorem bell_le (a b : Nat) : ((⟨#[119, 105, 114, 101, 115, 32, 50, 32, 98, 105, 116, 115, 32, 49, 59, 32, 104, 32, 48, 59, 32, 99, 120, 32, 48, 32, 49, 59, 32, 109, 101, 97, 115, 117, 114, 101, 32, 49, 32, 48, 59, 32, 105, 102, 32, 48, 58, 32, 120, 32, 48, 59]⟩ : ByteArray).extract a b).size ≤ 100 := Nat.le_trans (ext_le _ _ _) (by decide)
structure StrRow (w : World) (X n M : Nat) : Prop where
  lt : X < w.heap.size
  each : ∀ k, k < n → ∃ s : ByteArray, s.size ≤ M ∧ w.cell? ⟨X, k, none⟩ = some (.string s)
theorem StrRow.below {w w' : World} {X n M : Nat} (h : StrRow w X n M) (hb : Below w.heap.size w w') : StrRow w' X n M :=
  ⟨Nat.lt_of_lt_of_le h.lt hb.size, fun k hk => by obtain ⟨s, h1, h2⟩ := h.each k hk; exact ⟨s, h1, (hb.cell (p := ⟨X, k, none⟩) h.lt).trans h2⟩⟩
theorem StrRow.drew {w : World} {X n M : Nat} (h : StrRow w X n M) : StrRow w.drew X n M := ⟨h.lt, h.each⟩
theorem strRow_new (w : World) (t : TypeId) (ls : List ByteArray) (M : Nat) (hM : ∀ s ∈ ls, s.size ≤ M) : StrRow (w.alloc (.cells (ls.map Value.string).toArray t)) w.heap.size ls.length M := by
  refine ⟨by simp, fun k hk => ⟨ls[k], hM _ (List.getElem_mem hk), ?_⟩⟩
  rw [(Blk.new w t (ls.map Value.string).toArray).cell k]
  simp [hk]
def twelve : List ByteArray := [⟨#[59]⟩, ⟨#[58]⟩, ⟨#[32]⟩, ⟨#[48]⟩, ⟨#[55]⟩, ⟨#[120]⟩, ⟨#[35]⟩, ⟨#[10]⟩, ⟨#[65]⟩, ⟨#[0]⟩, ⟨#[255]⟩, ⟨#[105, 102, 32, 48, 58, 32]⟩]
theorem cat2_le {a b : ByteArray} {m n k : Nat} (ha : a.size ≤ m) (hb : b.size ≤ n) (h : m + n ≤ k) : (a ++ b).size ≤ k := by
  rw [ByteArray.size_append]; omega
theorem le_mul10 {t : ByteArray} {s c : Nat} (h : t.size = s * c) (hs : s ≤ 10) (hc : c ≤ 10) : t.size ≤ 100 := by
  have := Nat.mul_le_mul hs hc
  omega
def pre16 : ByteArray := ⟨#[119, 105, 114, 101, 115, 32, 51, 32, 98, 105, 116, 115, 32, 49, 59, 32]⟩
theorem size_s (a b c : ByteArray) (ha : a.size ≤ 10) (hb : b.size ≤ 100) (hc : c.size ≤ 100) : 17 ≤ (pre16 ++ a ++ b ++ c ++ ⟨#[59]⟩ : ByteArray).size ∧ (pre16 ++ a ++ b ++ c ++ ⟨#[59]⟩ : ByteArray).size ≤ 1000 := by
  have h1 : pre16.size = 16 := by decide
  have h2 : (⟨#[59]⟩ : ByteArray).size = 1 := by decide
  rw [ByteArray.size_append, ByteArray.size_append, ByteArray.size_append, ByteArray.size_append, h1, h2]
  omega
theorem Repeat_int (s : ByteArray) (c : Int) (hs : s.size ≤ 10) (hc : 0 ≤ c ∧ c ≤ 10) (w : World) :
    Calls Tryz.prog 26 #[.string s, .int .i64 c] w fun e w' => ∃ t : ByteArray, e = .returned (.string t) ∧ t.size ≤ 100 ∧ Below w.heap.size w w' := by
  obtain ⟨n, rfl⟩ := Int.eq_ofNat_of_zero_le hc.1
  exact (Repeat_any s n hs (by omega) w).mono fun e w' ⟨t, he, hz, hb⟩ => ⟨t, he, le_mul10 hz hs (by omega), hb⟩
theorem rep_ok : RepOk := fun x n A W hn hI => rep_ok_any x n A W (by omega) hI
set_option maxRecDepth 100000 in
set_option maxHeartbeats 32000000 in
theorem TextSmall_ok (H : LawsOk) (w : World) (ht : Tabs w) :
    Calls Tryz.prog 6 #[] w fun e w' => e = .returned (.bool true) ∧ Below w.heap.size w w' := by
  have HT := Lib.hid ht
  have HH := Lib.hid H
  have HR := Lib.hid (fun s c hs hc W => Repeat_any s c hs hc W)
  have HRI := Lib.hid (fun s c hs hc W => Repeat_int s c hs hc W)
  have HW := Lib.hid (fun k h W => Word_any k h W)
  have HRep : RepOk := rep_ok
  clear ht H
  go_enter Tryz.func6, Tryz.ntmps6
  go_wp2_with fail
  go_loopg [16] 53 (fun gk s16 wr => ∃ j : Nat, j + gk = 53 ∧ s16 = .int .i64 j ∧ Below w.heap.size w wr)
  case atStart => exact ⟨0, by omega, rfl, Below.refl _ _⟩
  case round =>
    obtain ⟨j, hj, rfl, kb⟩ := hrel
    cases gk with
    | succ g1 =>
      have hlt : (j : Int) < 53 := by omega
      have hl0 : (0 : Int) ≤ (j : Int) := by omega
      go_wp2_with fail
      refine (asked_ok HH.out _ (Nat.le_trans (ext_le _ _ _) (by decide)) _ (HT.out.below kb)).mono ?_
      rintro e w1 ⟨rfl, k1⟩
      have k1 := bt k1 kb kb.size
      clear kb
      go_wp2_with fail
      refine (HH.out.changes _ _ _ _ _ (by decide) (by decide) (HT.out.below k1)).mono ?_
      rintro e w2 ⟨rfl, k2⟩
      have k2 := bt k2 k1 k1.size
      clear k1
      go_wp2_with fail
      have R := strRow_new w2 9 twelve 10 (by decide)
      have k3 := bt (below1 w2 (.cells (twelve.map Value.string).toArray 9)) k2 k2.size
      generalize hX : w2.heap.size = X at R
      go_loopg [33] 12 (fun gk s33 wr => ∃ m : Nat, m + gk = 12 ∧ s33 = .int .i64 m ∧ StrRow wr X 12 10 ∧ Below w.heap.size w wr)
      case atStart => exact ⟨0, by omega, rfl, R, k3⟩
      case round =>
        clear R k3 hX k2
        obtain ⟨m, hm, rfl, R, kb⟩ := hrel
        cases gk with
        | zero =>
          obtain rfl : m = 12 := by omega
          go_wp2_with fail
          go_roundg g1
          case measure => omega
          case rel => exact ⟨j + 1, by omega, by go_num, kb⟩
        | succ gk =>
          have hlm : (m : Int) < 12 := by omega
          have hm0 : (0 : Int) ≤ (m : Int) := by omega
          obtain ⟨s, hs, hc⟩ := R.each m (by omega)
          go_upto_region 9 with fail
          have hs2 : s.size ≤ 100 := by omega
          have hltk := hlt
          go_cut [72] from 37 to 72 (fun s72 wx => s72 = .bool false ∧ StrRow wx X 12 10 ∧ Below w.heap.size w wx)
          case first =>
            have HP := Lib.hid (fun s W hs ht => HH.out.parses s W hs ht)
            have HQ := Lib.hid (fun s W hs ht => HH.out.toks s W hs ht)
            by_cases h52 : (j : Int) < 52
            · have d52 : decide ((j : Int) < 52) = true := decide_eq_true h52
              have b52 : (j : Int) ≤ 52 := by omega
              have c52 : (j : Int) + 1 ≤ 52 := by omega
              have c0 : (0 : Int) ≤ (j : Int) + 1 := by omega
              have et : ((j : Int) + 1).toNat = j + 1 := by omega
              have e1 : (9223372036854775807 < min j 52 + s.size) = False := eq_false (by omega)
              have e2 : (9223372036854775807 < min j 52 + s.size + (52 - j)) = False := eq_false (by omega)
              have e3 : (9223372036854775807 < min j 52 + s.size + (51 - j)) = False := eq_false (by omega)
              have cw : IntKind.i64.wrap ((j : Int) + 1) = (j : Int) + 1 := IntWalk.i64_in _ (by omega)
              have kb := kb.drew
              have R := R.drew
              go_region_held3 (fun _ => True) (trivial) (first
                | (go_at_call 24; ((with_reducible refine (HP.out _ _ (cat3_le (bell_le _ _) hs2 (bell_le _ _)) (HT.out.below kb)).mono ?_); rintro e wn ⟨rfl, kn⟩; have R := R.below kn; have kb := bt kn kb kb.size))
                | (go_at_call 25; ((with_reducible refine (HQ.out _ _ (cat3_le (bell_le _ _) hs2 (bell_le _ _)) (HT.out.below kb)).mono ?_); rintro e wn ⟨rfl, kn⟩; have R := R.below kn; have kb := bt kn kb kb.size)))
              go_wp2_with fail
              go_meet
              exact ⟨rfl, R, kb⟩
            · have d52 : decide ((j : Int) < 52) = false := decide_eq_false h52
              have b52 : (j : Int) ≤ 52 := by omega
              have e1 : (9223372036854775807 < min j 52 + s.size) = False := eq_false (by omega)
              have e2 : (9223372036854775807 < min j 52 + s.size + (52 - j)) = False := eq_false (by omega)
              have kb := kb.drew
              have R := R.drew
              refine wp_region_held_drew (S := (fun _ => True)) (by kernel_rfl) trivial (fun hHeld => ?_)
              refine wpAnyH_take (i := 0) (oi := { dst := some 37, op := Op.move (Operand.tmp 1), type := 3, pos := "law.go:111", after := #[], guard := none }) (v := ?_) rfl (by kernel_rfl) (by kernel_rfl) (by kernel_rfl) (fun _ _ _ h => h) (Or.inl ⟨by rfl, ?_⟩) trivial ?_
              rotate_left
              · (intro w hSw; go_simp; with_reducible rfl)
              try simp only [Act.put, List.setIfInBounds_toArray, List.set_cons_zero, List.set_cons_succ]
              refine wpAnyH_take (i := 1) (oi := { dst := some 38, op := Op.slice 9 (Operand.const (Value.string { data := #[119, 105, 114, 101, 115, 32, 50, 32, 98, 105, 116, 115, 32, 49, 59, 32, 104, 32, 48, 59, 32, 99, 120, 32, 48, 32, 49, 59, 32, 109, 101, 97, 115, 117, 114, 101, 32, 49, 32, 48, 59, 32, 105, 102, 32, 48, 58, 32, 120, 32, 48, 59] })) none (some (Operand.tmp 37)) none, type := 9, pos := "law.go:111", after := #[{ on := 0, ground := Ground.data }], guard := none }) (v := ?_) rfl (by kernel_rfl) (by kernel_rfl) (by kernel_rfl) (fun _ _ _ h => h) (Or.inl ⟨by rfl, ?_⟩) trivial ?_
              rotate_left
              · (intro w hSw; go_simp; with_reducible rfl)
              try simp only [Act.put, List.setIfInBounds_toArray, List.set_cons_zero, List.set_cons_succ]
              refine wpAnyH_take (i := 2) (oi := { dst := some 39, op := Op.move (Operand.tmp 3), type := 9, pos := "law.go:111", after := #[], guard := none }) (v := ?_) rfl (by kernel_rfl) (by kernel_rfl) (by kernel_rfl) (fun _ _ _ h => h) (Or.inl ⟨by rfl, ?_⟩) trivial ?_
              rotate_left
              · (intro w hSw; go_simp; with_reducible rfl)
              try simp only [Act.put, List.setIfInBounds_toArray, List.set_cons_zero, List.set_cons_succ]
              refine wpAnyH_take (i := 3) (oi := { dst := some 40, op := Op.binOp BinOp.add 9 (Operand.tmp 38) (Operand.tmp 39) 9, type := 9, pos := "law.go:111", after := #[{ on := 1, ground := Ground.data }, { on := 2, ground := Ground.data }], guard := none }) (v := ?_) rfl (by kernel_rfl) (by kernel_rfl) (by kernel_rfl) (fun _ _ _ h => h) (Or.inl ⟨by rfl, ?_⟩) trivial ?_
              rotate_left
              · (intro w hSw; go_simp; with_reducible rfl)
              try simp only [Act.put, List.setIfInBounds_toArray, List.set_cons_zero, List.set_cons_succ]
              refine wpAnyH_take (i := 4) (oi := { dst := some 41, op := Op.move (Operand.tmp 1), type := 3, pos := "law.go:111", after := #[], guard := none }) (v := ?_) rfl (by kernel_rfl) (by kernel_rfl) (by kernel_rfl) (fun _ _ _ h => h) (Or.inl ⟨by rfl, ?_⟩) trivial ?_
              rotate_left
              · (intro w hSw; go_simp; with_reducible rfl)
              try simp only [Act.put, List.setIfInBounds_toArray, List.set_cons_zero, List.set_cons_succ]
              refine wpAnyH_take (i := 5) (oi := { dst := some 42, op := Op.slice 9 (Operand.const (Value.string { data := #[119, 105, 114, 101, 115, 32, 50, 32, 98, 105, 116, 115, 32, 49, 59, 32, 104, 32, 48, 59, 32, 99, 120, 32, 48, 32, 49, 59, 32, 109, 101, 97, 115, 117, 114, 101, 32, 49, 32, 48, 59, 32, 105, 102, 32, 48, 58, 32, 120, 32, 48, 59] })) (some (Operand.tmp 41)) none none, type := 9, pos := "law.go:111", after := #[{ on := 4, ground := Ground.data }], guard := none }) (v := ?_) rfl (by kernel_rfl) (by kernel_rfl) (by kernel_rfl) (fun _ _ _ h => h) (Or.inl ⟨by rfl, ?_⟩) trivial ?_
              rotate_left
              · (intro w hSw; go_simp; with_reducible rfl)
              try simp only [Act.put, List.setIfInBounds_toArray, List.set_cons_zero, List.set_cons_succ]
              refine wpAnyH_take (i := 6) (oi := { dst := some 43, op := Op.binOp BinOp.add 9 (Operand.tmp 40) (Operand.tmp 42) 9, type := 9, pos := "law.go:111", after := #[{ on := 3, ground := Ground.data }, { on := 5, ground := Ground.data }], guard := none }) (v := ?_) rfl (by kernel_rfl) (by kernel_rfl) (by kernel_rfl) (fun _ _ _ h => h) (Or.inl ⟨by rfl, ?_⟩) trivial ?_
              rotate_left
              · (intro w hSw; go_simp; with_reducible rfl)
              try simp only [Act.put, List.setIfInBounds_toArray, List.set_cons_zero, List.set_cons_succ]
              refine wpAnyH_ready (rs := [7]) (by kernel_rfl) (by simp) ?_
              refine AllReadyH.cons (o := { dst := some 44, op := Op.call { callee := Callee.value (Operand.func 24), args := #[Operand.tmp 43], argTypes := #[9] }, type := 4, pos := "law.go:111", after := #[{ on := 6, ground := Ground.data }], guard := none }) rfl (fun K hK => ?_) AllReadyH.nil
              go_simp
              with_reducible refine (HP.out _ _ (cat3_le (bell_le _ _) hs2 (bell_le _ _)) (HT.out.below kb)).mono ?_
              rintro e wn ⟨rfl, kn⟩
              have R := R.below kn
              have kb := bt kn kb kb.size
              clear kn
              go_wp2_with fail
              refine hK.out _ _ trivial (fun hHeld => ?_)
              clear hK K
              try simp only [Act.put, List.setIfInBounds_toArray, List.set_cons_zero, List.set_cons_succ]
              refine wpAnyH_take (i := 8) (oi := { dst := some 45, op := Op.unOp UnOp.not 4 (Operand.tmp 44), type := 4, pos := "law.go:111", after := #[{ on := 7, ground := Ground.data }], guard := none }) (v := ?_) rfl (by kernel_rfl) (by kernel_rfl) (by kernel_rfl) (fun _ _ _ h => h) (Or.inl ⟨by rfl, ?_⟩) trivial ?_
              rotate_left
              · (intro w hSw; go_simp; with_reducible rfl)
              try simp only [Act.put, List.setIfInBounds_toArray, List.set_cons_zero, List.set_cons_succ]
              refine wpAnyH_take (i := 9) (oi := { dst := some 46, op := Op.move (Operand.tmp 45), type := 4, pos := "law.go:111", after := #[{ on := 8, ground := Ground.data }, { on := 7, ground := Ground.chain }], guard := none }) (v := ?_) rfl (by kernel_rfl) (by kernel_rfl) (by kernel_rfl) (fun _ _ _ h => h) (Or.inl ⟨by rfl, ?_⟩) trivial ?_
              rotate_left
              · (intro w hSw; go_simp; with_reducible rfl)
              try simp only [Act.put, List.setIfInBounds_toArray, List.set_cons_zero, List.set_cons_succ]
              refine wpAnyH_take (i := 10) (oi := { dst := some 47, op := Op.move (Operand.tmp 1), type := 3, pos := "law.go:111", after := #[{ on := 9, ground := Ground.guard }], guard := some (9, false) }) (v := ?_) rfl (by kernel_rfl) (by kernel_rfl) (by kernel_rfl) (fun _ _ _ h => h) (Or.inl ⟨by rfl, ?_⟩) trivial ?_
              rotate_left
              · (intro w hSw; go_simp; with_reducible rfl)
              try simp only [Act.put, List.setIfInBounds_toArray, List.set_cons_zero, List.set_cons_succ]
              refine wpAnyH_take (i := 11) (oi := { dst := some 48, op := Op.slice 9 (Operand.const (Value.string { data := #[119, 105, 114, 101, 115, 32, 50, 32, 98, 105, 116, 115, 32, 49, 59, 32, 104, 32, 48, 59, 32, 99, 120, 32, 48, 32, 49, 59, 32, 109, 101, 97, 115, 117, 114, 101, 32, 49, 32, 48, 59, 32, 105, 102, 32, 48, 58, 32, 120, 32, 48, 59] })) none (some (Operand.tmp 47)) none, type := 9, pos := "law.go:111", after := #[{ on := 10, ground := Ground.data }, { on := 9, ground := Ground.guard }], guard := some (9, false) }) (v := ?_) rfl (by kernel_rfl) (by kernel_rfl) (by kernel_rfl) (fun _ _ _ h => h) (Or.inl ⟨by rfl, ?_⟩) trivial ?_
              rotate_left
              · (intro w hSw; go_simp; with_reducible rfl)
              try simp only [Act.put, List.setIfInBounds_toArray, List.set_cons_zero, List.set_cons_succ]
              refine wpAnyH_take (i := 12) (oi := { dst := some 49, op := Op.move (Operand.tmp 3), type := 9, pos := "law.go:111", after := #[{ on := 9, ground := Ground.guard }], guard := some (9, false) }) (v := ?_) rfl (by kernel_rfl) (by kernel_rfl) (by kernel_rfl) (fun _ _ _ h => h) (Or.inl ⟨by rfl, ?_⟩) trivial ?_
              rotate_left
              · (intro w hSw; go_simp; with_reducible rfl)
              try simp only [Act.put, List.setIfInBounds_toArray, List.set_cons_zero, List.set_cons_succ]
              refine wpAnyH_take (i := 13) (oi := { dst := some 50, op := Op.binOp BinOp.add 9 (Operand.tmp 48) (Operand.tmp 49) 9, type := 9, pos := "law.go:111", after := #[{ on := 11, ground := Ground.data }, { on := 12, ground := Ground.data }, { on := 9, ground := Ground.guard }], guard := some (9, false) }) (v := ?_) rfl (by kernel_rfl) (by kernel_rfl) (by kernel_rfl) (fun _ _ _ h => h) (Or.inl ⟨by rfl, ?_⟩) trivial ?_
              rotate_left
              · (intro w hSw; go_simp; with_reducible rfl)
              try simp only [Act.put, List.setIfInBounds_toArray, List.set_cons_zero, List.set_cons_succ]
              refine wpAnyH_take (i := 14) (oi := { dst := some 51, op := Op.move (Operand.tmp 1), type := 3, pos := "law.go:111", after := #[{ on := 9, ground := Ground.guard }], guard := some (9, false) }) (v := ?_) rfl (by kernel_rfl) (by kernel_rfl) (by kernel_rfl) (fun _ _ _ h => h) (Or.inl ⟨by rfl, ?_⟩) trivial ?_
              rotate_left
              · (intro w hSw; go_simp; with_reducible rfl)
              try simp only [Act.put, List.setIfInBounds_toArray, List.set_cons_zero, List.set_cons_succ]
              refine wpAnyH_take (i := 15) (oi := { dst := some 52, op := Op.slice 9 (Operand.const (Value.string { data := #[119, 105, 114, 101, 115, 32, 50, 32, 98, 105, 116, 115, 32, 49, 59, 32, 104, 32, 48, 59, 32, 99, 120, 32, 48, 32, 49, 59, 32, 109, 101, 97, 115, 117, 114, 101, 32, 49, 32, 48, 59, 32, 105, 102, 32, 48, 58, 32, 120, 32, 48, 59] })) (some (Operand.tmp 51)) none none, type := 9, pos := "law.go:111", after := #[{ on := 14, ground := Ground.data }, { on := 9, ground := Ground.guard }], guard := some (9, false) }) (v := ?_) rfl (by kernel_rfl) (by kernel_rfl) (by kernel_rfl) (fun _ _ _ h => h) (Or.inl ⟨by rfl, ?_⟩) trivial ?_
              rotate_left
              · (intro w hSw; go_simp; with_reducible rfl)
              try simp only [Act.put, List.setIfInBounds_toArray, List.set_cons_zero, List.set_cons_succ]
              refine wpAnyH_take (i := 16) (oi := { dst := some 53, op := Op.binOp BinOp.add 9 (Operand.tmp 50) (Operand.tmp 52) 9, type := 9, pos := "law.go:111", after := #[{ on := 13, ground := Ground.data }, { on := 15, ground := Ground.data }, { on := 9, ground := Ground.guard }], guard := some (9, false) }) (v := ?_) rfl (by kernel_rfl) (by kernel_rfl) (by kernel_rfl) (fun _ _ _ h => h) (Or.inl ⟨by rfl, ?_⟩) trivial ?_
              rotate_left
              · (intro w hSw; go_simp; with_reducible rfl)
              try simp only [Act.put, List.setIfInBounds_toArray, List.set_cons_zero, List.set_cons_succ]
              refine wpAnyH_ready (rs := [17]) (by kernel_rfl) (by simp) ?_
              refine AllReadyH.cons (o := { dst := some 54, op := Op.call { callee := Callee.value (Operand.func 25), args := #[Operand.tmp 53], argTypes := #[9] }, type := 4, pos := "law.go:111", after := #[{ on := 16, ground := Ground.data }, { on := 9, ground := Ground.chain }, { on := 9, ground := Ground.guard }], guard := some (9, false) }) rfl (fun K hK => ?_) AllReadyH.nil
              go_simp
              with_reducible refine (HQ.out _ _ (cat3_le (bell_le _ _) hs2 (bell_le _ _)) (HT.out.below kb)).mono ?_
              rintro e wn ⟨rfl, kn⟩
              have R := R.below kn
              have kb := bt kn kb kb.size
              clear kn
              go_wp2_with fail
              refine hK.out _ _ trivial (fun hHeld => ?_)
              clear hK K
              try simp only [Act.put, List.setIfInBounds_toArray, List.set_cons_zero, List.set_cons_succ]
              refine wpAnyH_take (i := 18) (oi := { dst := some 55, op := Op.unOp UnOp.not 4 (Operand.tmp 54), type := 4, pos := "law.go:111", after := #[{ on := 17, ground := Ground.data }, { on := 9, ground := Ground.guard }], guard := some (9, false) }) (v := ?_) rfl (by kernel_rfl) (by kernel_rfl) (by kernel_rfl) (fun _ _ _ h => h) (Or.inl ⟨by rfl, ?_⟩) trivial ?_
              rotate_left
              · (intro w hSw; go_simp; with_reducible rfl)
              try simp only [Act.put, List.setIfInBounds_toArray, List.set_cons_zero, List.set_cons_succ]
              refine wpAnyH_take (i := 19) (oi := { dst := some 56, op := Op.pick (Operand.tmp 46) (Operand.const (Value.bool true)) (Operand.tmp 55), type := 4, pos := "law.go:111", after := #[{ on := 9, ground := Ground.data }, { on := 18, ground := Ground.data }], guard := none }) (v := ?_) rfl (by kernel_rfl) (by kernel_rfl) (by kernel_rfl) (fun _ _ _ h => h) (Or.inl ⟨by rfl, ?_⟩) trivial ?_
              rotate_left
              · (intro w hSw; go_simp; with_reducible rfl)
              try simp only [Act.put, List.setIfInBounds_toArray, List.set_cons_zero, List.set_cons_succ]
              refine wpAnyH_take (i := 20) (oi := { dst := some 57, op := Op.move (Operand.tmp 56), type := 4, pos := "law.go:111", after := #[{ on := 19, ground := Ground.data }, { on := 17, ground := Ground.chain }], guard := none }) (v := ?_) rfl (by kernel_rfl) (by kernel_rfl) (by kernel_rfl) (fun _ _ _ h => h) (Or.inl ⟨by rfl, ?_⟩) trivial ?_
              rotate_left
              · (intro w hSw; go_simp; with_reducible rfl)
              try simp only [Act.put, List.setIfInBounds_toArray, List.set_cons_zero, List.set_cons_succ]
              refine wpAnyH_take (i := 21) (oi := { dst := some 58, op := Op.move (Operand.tmp 1), type := 3, pos := "law.go:111", after := #[{ on := 20, ground := Ground.guard }], guard := some (20, false) }) (v := ?_) rfl (by kernel_rfl) (by kernel_rfl) (by kernel_rfl) (fun _ _ _ h => h) (Or.inl ⟨by rfl, ?_⟩) trivial ?_
              rotate_left
              · (intro w hSw; go_simp; with_reducible rfl)
              try simp only [Act.put, List.setIfInBounds_toArray, List.set_cons_zero, List.set_cons_succ]
              refine wpAnyH_take (i := 22) (oi := { dst := some 59, op := Op.binOp BinOp.lss 3 (Operand.tmp 58) (Operand.const (Value.int IntKind.i64 52)) 3, type := 4, pos := "law.go:111", after := #[{ on := 21, ground := Ground.data }, { on := 20, ground := Ground.guard }], guard := some (20, false) }) (v := ?_) rfl (by kernel_rfl) (by kernel_rfl) (by kernel_rfl) (fun _ _ _ h => h) (Or.inl ⟨by rfl, ?_⟩) trivial ?_
              rotate_left
              · (intro w hSw; go_simp; with_reducible rfl)
              try simp only [Act.put, List.setIfInBounds_toArray, List.set_cons_zero, List.set_cons_succ]
              refine wpAnyH_take (i := 23) (oi := { dst := some 60, op := Op.move (Operand.tmp 59), type := 4, pos := "law.go:111", after := #[{ on := 22, ground := Ground.data }, { on := 20, ground := Ground.chain }, { on := 20, ground := Ground.guard }], guard := some (20, false) }) (v := ?_) rfl (by kernel_rfl) (by kernel_rfl) (by kernel_rfl) (fun _ _ _ h => h) (Or.inl ⟨by rfl, ?_⟩) trivial ?_
              rotate_left
              · (intro w hSw; go_simp; with_reducible rfl)
              try simp only [Act.put, List.setIfInBounds_toArray, List.set_cons_zero, List.set_cons_succ]
              refine wpAnyH_take (i := 24) (oi := { dst := some 61, op := Op.move (Operand.tmp 1), type := 3, pos := "law.go:111", after := #[{ on := 23, ground := Ground.guard }], guard := some (23, true) }) (v := undef) rfl (by kernel_rfl) (by kernel_rfl) (by kernel_rfl) (fun _ _ _ h => h) (Or.inr ⟨by rfl, rfl⟩) trivial ?_
              try simp only [Act.put, List.setIfInBounds_toArray, List.set_cons_zero, List.set_cons_succ]
              refine wpAnyH_take (i := 25) (oi := { dst := some 62, op := Op.slice 9 (Operand.const (Value.string { data := #[119, 105, 114, 101, 115, 32, 50, 32, 98, 105, 116, 115, 32, 49, 59, 32, 104, 32, 48, 59, 32, 99, 120, 32, 48, 32, 49, 59, 32, 109, 101, 97, 115, 117, 114, 101, 32, 49, 32, 48, 59, 32, 105, 102, 32, 48, 58, 32, 120, 32, 48, 59] })) none (some (Operand.tmp 61)) none, type := 9, pos := "law.go:111", after := #[{ on := 24, ground := Ground.data }, { on := 23, ground := Ground.guard }], guard := some (23, true) }) (v := undef) rfl (by kernel_rfl) (by kernel_rfl) (by kernel_rfl) (fun _ _ _ h => h) (Or.inr ⟨by rfl, rfl⟩) trivial ?_
              try simp only [Act.put, List.setIfInBounds_toArray, List.set_cons_zero, List.set_cons_succ]
              refine wpAnyH_take (i := 26) (oi := { dst := some 63, op := Op.move (Operand.tmp 3), type := 9, pos := "law.go:111", after := #[{ on := 23, ground := Ground.guard }], guard := some (23, true) }) (v := undef) rfl (by kernel_rfl) (by kernel_rfl) (by kernel_rfl) (fun _ _ _ h => h) (Or.inr ⟨by rfl, rfl⟩) trivial ?_
              try simp only [Act.put, List.setIfInBounds_toArray, List.set_cons_zero, List.set_cons_succ]
              refine wpAnyH_take (i := 27) (oi := { dst := some 64, op := Op.binOp BinOp.add 9 (Operand.tmp 62) (Operand.tmp 63) 9, type := 9, pos := "law.go:111", after := #[{ on := 25, ground := Ground.data }, { on := 26, ground := Ground.data }, { on := 23, ground := Ground.guard }], guard := some (23, true) }) (v := undef) rfl (by kernel_rfl) (by kernel_rfl) (by kernel_rfl) (fun _ _ _ h => h) (Or.inr ⟨by rfl, rfl⟩) trivial ?_
              try simp only [Act.put, List.setIfInBounds_toArray, List.set_cons_zero, List.set_cons_succ]
              refine wpAnyH_take (i := 28) (oi := { dst := some 65, op := Op.move (Operand.tmp 1), type := 3, pos := "law.go:111", after := #[{ on := 23, ground := Ground.guard }], guard := some (23, true) }) (v := undef) rfl (by kernel_rfl) (by kernel_rfl) (by kernel_rfl) (fun _ _ _ h => h) (Or.inr ⟨by rfl, rfl⟩) trivial ?_
              try simp only [Act.put, List.setIfInBounds_toArray, List.set_cons_zero, List.set_cons_succ]
              refine wpAnyH_take (i := 29) (oi := { dst := some 66, op := Op.binOp BinOp.add 3 (Operand.tmp 65) (Operand.const (Value.int IntKind.i64 1)) 3, type := 3, pos := "law.go:111", after := #[{ on := 28, ground := Ground.data }, { on := 23, ground := Ground.guard }], guard := some (23, true) }) (v := undef) rfl (by kernel_rfl) (by kernel_rfl) (by kernel_rfl) (fun _ _ _ h => h) (Or.inr ⟨by rfl, rfl⟩) trivial ?_
              try simp only [Act.put, List.setIfInBounds_toArray, List.set_cons_zero, List.set_cons_succ]
              refine wpAnyH_take (i := 30) (oi := { dst := some 67, op := Op.slice 9 (Operand.const (Value.string { data := #[119, 105, 114, 101, 115, 32, 50, 32, 98, 105, 116, 115, 32, 49, 59, 32, 104, 32, 48, 59, 32, 99, 120, 32, 48, 32, 49, 59, 32, 109, 101, 97, 115, 117, 114, 101, 32, 49, 32, 48, 59, 32, 105, 102, 32, 48, 58, 32, 120, 32, 48, 59] })) (some (Operand.tmp 66)) none none, type := 9, pos := "law.go:111", after := #[{ on := 29, ground := Ground.data }, { on := 23, ground := Ground.guard }], guard := some (23, true) }) (v := undef) rfl (by kernel_rfl) (by kernel_rfl) (by kernel_rfl) (fun _ _ _ h => h) (Or.inr ⟨by rfl, rfl⟩) trivial ?_
              try simp only [Act.put, List.setIfInBounds_toArray, List.set_cons_zero, List.set_cons_succ]
              refine wpAnyH_take (i := 31) (oi := { dst := some 68, op := Op.binOp BinOp.add 9 (Operand.tmp 64) (Operand.tmp 67) 9, type := 9, pos := "law.go:111", after := #[{ on := 27, ground := Ground.data }, { on := 30, ground := Ground.data }, { on := 23, ground := Ground.guard }], guard := some (23, true) }) (v := undef) rfl (by kernel_rfl) (by kernel_rfl) (by kernel_rfl) (fun _ _ _ h => h) (Or.inr ⟨by rfl, rfl⟩) trivial ?_
              try simp only [Act.put, List.setIfInBounds_toArray, List.set_cons_zero, List.set_cons_succ]
              refine wpAnyH_take (i := 32) (oi := { dst := some 69, op := Op.call { callee := Callee.value (Operand.func 24), args := #[Operand.tmp 68], argTypes := #[9] }, type := 4, pos := "law.go:111", after := #[{ on := 31, ground := Ground.data }, { on := 23, ground := Ground.chain }, { on := 23, ground := Ground.guard }], guard := some (23, true) }) (v := undef) rfl (by kernel_rfl) (by kernel_rfl) (by kernel_rfl) (fun _ _ _ h => h) (Or.inr ⟨by rfl, rfl⟩) trivial ?_
              try simp only [Act.put, List.setIfInBounds_toArray, List.set_cons_zero, List.set_cons_succ]
              refine wpAnyH_take (i := 33) (oi := { dst := some 70, op := Op.unOp UnOp.not 4 (Operand.tmp 69), type := 4, pos := "law.go:111", after := #[{ on := 32, ground := Ground.data }, { on := 23, ground := Ground.guard }], guard := some (23, true) }) (v := undef) rfl (by kernel_rfl) (by kernel_rfl) (by kernel_rfl) (fun _ _ _ h => h) (Or.inr ⟨by rfl, rfl⟩) trivial ?_
              try simp only [Act.put, List.setIfInBounds_toArray, List.set_cons_zero, List.set_cons_succ]
              refine wpAnyH_take (i := 34) (oi := { dst := some 71, op := Op.pick (Operand.tmp 60) (Operand.tmp 70) (Operand.const (Value.bool false)), type := 4, pos := "law.go:111", after := #[{ on := 23, ground := Ground.data }, { on := 33, ground := Ground.data }, { on := 20, ground := Ground.guard }], guard := some (20, false) }) (v := ?_) rfl (by kernel_rfl) (by kernel_rfl) (by kernel_rfl) (fun _ _ _ h => h) (Or.inl ⟨by rfl, ?_⟩) trivial ?_
              rotate_left
              · (intro w hSw; go_simp; with_reducible rfl)
              try simp only [Act.put, List.setIfInBounds_toArray, List.set_cons_zero, List.set_cons_succ]
              refine wpAnyH_take (i := 35) (oi := { dst := some 72, op := Op.pick (Operand.tmp 57) (Operand.const (Value.bool true)) (Operand.tmp 71), type := 4, pos := "law.go:111", after := #[{ on := 20, ground := Ground.data }, { on := 34, ground := Ground.data }], guard := none }) (v := ?_) rfl (by kernel_rfl) (by kernel_rfl) (by kernel_rfl) (fun _ _ _ h => h) (Or.inl ⟨by rfl, ?_⟩) trivial ?_
              rotate_left
              · (intro w hSw; go_simp; with_reducible rfl)
              try simp only [Act.put, List.setIfInBounds_toArray, List.set_cons_zero, List.set_cons_succ]
              refine wpAnyH_done (by kernel_rfl) ?_ _
              go_wp2_with fail
              go_meet
              exact ⟨rfl, R, kb⟩
          case rest =>
            obtain ⟨rfl, R, kb⟩ := hcut
            go_wp2_with fail
            go_roundg gk
            case measure => omega
            case rel => exact ⟨m + 1, by omega, by go_num, R, kb⟩
    | zero =>
      obtain rfl : j = 53 := by omega
      go_wp2_with fail
      go_loopg [75] 11 (fun gk s75 wr => ∃ n : Nat, n + gk = 11 ∧ s75 = .int .i64 n ∧ Below w.heap.size w wr)
      case atStart => exact ⟨0, by omega, rfl, kb⟩
      case round =>
        clear kb
        obtain ⟨n, hn, rfl, kb⟩ := hrel
        cases gk with
        | succ g1 =>
          have hlt : (n : Int) < 11 := by omega
          have hc : n ≤ 10 := by omega
          have hc5 : n ≤ 100000 := by omega
          go_wp2_with fail
          refine (HR.out _ _ (by decide) hc5 _).mono ?_
          rintro e w1 ⟨t1, rfl, hz1, k1⟩
          have hz1 := le_mul10 hz1 (by decide) hc
          have k1 := bt k1 kb kb.size
          clear kb
          go_wp2_with fail
          refine (HR.out _ _ (by decide) hc5 _).mono ?_
          rintro e w2 ⟨t2, rfl, hz2, k2⟩
          have hz2 := le_mul10 hz2 (by decide) hc
          have k2 := bt k2 k1 k1.size
          clear k1
          go_wp2_with fail
          refine (asked_ok HH.out _ (Nat.le_trans hz1 (by decide)) _ (HT.out.below k2)).mono ?_
          rintro e w3 ⟨rfl, k3⟩
          have k3 := bt k3 k2 k2.size
          clear k2
          go_wp2_with fail
          refine (asked_ok HH.out _ (Nat.le_trans hz2 (by decide)) _ (HT.out.below k3)).mono ?_
          rintro e w4 ⟨rfl, k4⟩
          have k4 := bt k4 k3 k3.size
          clear k3
          go_wp2_with fail
          refine (asked_ok HH.out _ (cat2_le (m := 200) (n := 100) (cat2_le (m := 100) (n := 100) (by decide) hz2 (by decide)) (by decide) (by decide)) _ (HT.out.below k4)).mono ?_
          rintro e w5 ⟨rfl, k5⟩
          have k5 := bt k5 k4 k4.size
          clear k4
          go_wp2_with fail
          refine (asked_ok HH.out _ (cat2_le (m := 200) (n := 100) (cat2_le (m := 100) (n := 100) (by decide) hz1 (by decide)) (by decide) (by decide)) _ (HT.out.below k5)).mono ?_
          rintro e w6 ⟨rfl, k6⟩
          have k6 := bt k6 k5 k5.size
          clear k5
          go_wp2_with fail
          refine (HR.out _ _ (by decide) hc5 _).mono ?_
          rintro e w7 ⟨t3, rfl, hz3, k7⟩
          have hz3 := le_mul10 hz3 (by decide) hc
          have k7 := bt k7 k6 k6.size
          clear k6
          go_wp2_with fail
          refine (asked_ok HH.out _ (cat2_le (m := 100) (n := 100) (by decide) hz3 (by decide)) _ (HT.out.below k7)).mono ?_
          rintro e w8 ⟨rfl, k8⟩
          have k8 := bt k8 k7 k7.size
          clear k7
          go_wp2_with fail
          refine (HR.out _ _ (by decide) hc5 _).mono ?_
          rintro e w9 ⟨t4, rfl, hz4, k9⟩
          have hz4 := le_mul10 hz4 (by decide) hc
          have k9 := bt k9 k8 k8.size
          clear k8
          go_wp2_with fail
          refine (asked_ok HH.out _ (cat2_le (m := 200) (n := 100) (cat2_le (m := 100) (n := 100) (by decide) hz4 (by decide)) (by decide) (by decide)) _ (HT.out.below k9)).mono ?_
          rintro e w10 ⟨rfl, k10⟩
          have k10 := bt k10 k9 k9.size
          clear k9
          go_wp2_with fail
          refine (asked_ok HH.out _ (cat2_le (m := 200) (n := 100) (cat2_le (m := 100) (n := 100) (by decide) hz2 (by decide)) (by decide) (by decide)) _ (HT.out.below k10)).mono ?_
          rintro e w11 ⟨rfl, k11⟩
          have k11 := bt k11 k10 k10.size
          clear k10
          go_wp2_with fail
          go_roundg g1
          case measure => omega
          case rel => exact ⟨n + 1, by omega, by go_num, k11⟩
        | zero =>
          obtain rfl : n = 11 := by omega
          go_wp2_with fail
          go_loopg [127] 17 (fun gk s127 wr => ∃ k : Nat, k + gk = 17 ∧ s127 = .int .i64 k ∧ Below w.heap.size w wr)
          case atStart => exact ⟨0, by omega, rfl, kb⟩
          case round =>
            clear kb
            obtain ⟨k, hk, rfl, kb⟩ := hrel
            cases gk with
            | succ g1 =>
              have hlt : (k : Int) < 17 := by omega
              have hk16 : (0 : Int) ≤ (k : Int) ∧ (k : Int) ≤ 16 := by omega
              go_wp2_with fail
              go_loopg [130] 5 (fun gk s130 wr => ∃ n : Nat, n + gk = 5 ∧ s130 = .int .i64 n ∧ Below w.heap.size w wr)
              case atStart => exact ⟨0, by omega, rfl, kb⟩
              case round =>
                clear kb
                obtain ⟨n, hn, rfl, kb⟩ := hrel
                cases gk with
                | zero =>
                  obtain rfl : n = 5 := by omega
                  go_wp2_with fail
                  go_roundg g1
                  case measure => omega
                  case rel => exact ⟨k + 1, by omega, by go_num, kb⟩
                | succ g2 =>
                  have hl5 : (n : Int) < 5 := by omega
                  have hn0 : (0 : Int) ≤ (n : Int) := by omega
                  have hn4 : (n : Int) ≤ 4 := by omega
                  have hn4' : n ≤ 4 := by omega
                  have hq : 0 ≤ Int.tdiv (n : Int) 2 ∧ Int.tdiv (n : Int) 2 ≤ 10 := by
                    rcases (by omega : n = 0 ∨ n = 1 ∨ n = 2 ∨ n = 3 ∨ n = 4) with rfl | rfl | rfl | rfl | rfl <;> decide
                  go_wp2_with fail
                  refine (HW.out _ hk16 _).mono ?_
                  rintro e w1 ⟨t1, rfl, hz1, rfl⟩
                  go_wp2_with fail
                  refine (HRI.out _ _ (by decide) (by omega) _).mono ?_
                  rintro e w2 ⟨t2, rfl, hz2, k2⟩
                  have k2 := bt k2 kb kb.size
                  clear kb
                  go_wp2_with fail
                  refine (HRI.out _ _ (by decide) hq _).mono ?_
                  rintro e w3 ⟨t3, rfl, hz3, k3⟩
                  have k3 := bt k3 k2 k2.size
                  clear k2
                  have hS := size_s t1 t2 t3 hz1 hz2 hz3
                  go_upto_region 27 with fail
                  go_upto_region 28 with fail
                  have hI : IntsAt ((w3.alloc (.cells #[.int .i64 0, .int .i64 1, .int .i64 2, .int .i64 3] 3)).alloc (.cells #[.int .i64 (↑k - 1), .slice (some ⟨w3.heap.size, 0, none⟩) n 4, .int .i64 0, .int .i64 0] 61)) (w3.heap.size + 1) (.slice (some ⟨w3.heap.size, 0, none⟩) n 4) (([0, 1, 2, 3] : List Int).take n) := (ints_lit w3 [0, 1, 2, 3] n (by simpa using hn4') (by decide)).below (belowA w3 _ (.cells #[.int .i64 (↑k - 1), .slice (some ⟨w3.heap.size, 0, none⟩) n 4, .int .i64 0, .int .i64 0] 61))
                  have hG := Blk.at_ (w3.alloc (.cells #[.int .i64 0, .int .i64 1, .int .i64 2, .int .i64 3] 3)) 61 #[.int .i64 (↑k - 1), .slice (some ⟨w3.heap.size, 0, none⟩) n 4, .int .i64 0, .int .i64 0] (n := w3.heap.size + 1) (by simp)
                  have k4 := bt (below2 w3 (.cells #[.int .i64 0, .int .i64 1, .int .i64 2, .int .i64 3] 3) (.cells #[.int .i64 (↑k - 1), .slice (some ⟨w3.heap.size, 0, none⟩) n 4, .int .i64 0, .int .i64 0] 61)) k3 k3.size
                  have hS16 : (16 : Int) ≤ ((pre16 ++ t1 ++ t2 ++ t3 ++ ⟨#[59]⟩ : ByteArray).size : Int) := by have := hS.1; omega
                  have hS16' : 16 ≤ (pre16 ++ t1 ++ t2 ++ t3 ++ ⟨#[59]⟩ : ByteArray).size := by have := hS.1; omega
                  have hS2 := hS.2
                  clear k3 hS
                  unfold pre16 at hS16 hS16' hS2
                  generalize ((⟨#[119, 105, 114, 101, 115, 32, 51, 32, 98, 105, 116, 115, 32, 49, 59, 32]⟩ : ByteArray) ++ t1 ++ t2 ++ t3 ++ ⟨#[59]⟩ : ByteArray) = s at *
                  generalize (w3.alloc (.cells #[.int .i64 0, .int .i64 1, .int .i64 2, .int .i64 3] 3)).alloc (.cells #[.int .i64 (↑k - 1), .slice (some ⟨w3.heap.size, 0, none⟩) n 4, .int .i64 0, .int .i64 0] 61) = wa at *
                  generalize w3.heap.size = X3 at *
                  have hI := hI.more (Nat.le_of_lt hG.lt)
                  go_wp2_with fail
                  refine (asked_ok HH.out _ (Nat.le_trans hS2 (by decide)) _ (HT.out.below k4)).mono ?_
                  rintro e w5 ⟨rfl, k5⟩
                  have hG := hG.below k5 hG.lt
                  have hI := (hI.below k5).more k5.size
                  have k5 := bt k5 k4 k4.size
                  clear k4
                  go_wp2_with fail
                  refine (asked_ok HH.out _ (cat2_le (m := 100) (n := 1000) (by decide) (Nat.le_trans (ext_le _ _ _) hS2) (by decide)) _ (HT.out.below k5)).mono ?_
                  rintro e w6 ⟨rfl, k6⟩
                  have hG := hG.below k6 hG.lt
                  have hI := (hI.below k6).more k6.size
                  have k6 := bt k6 k5 k5.size
                  clear k5
                  obtain ⟨x0, x1, x2, x3, xf⟩ := hG.cells4
                  have hG2 := hG.alloc (.cells #[.int .i64 (↑k - 1), .slice (some ⟨X3, 0, none⟩) n 4, .int .i64 0, .int .i64 0] 61)
                  obtain ⟨y0, y1, y2, y3, yf⟩ := hG2.cells4
                  have hGt : GatesAt (w6.alloc (.cells #[.int .i64 (↑k - 1), .slice (some ⟨X3, 0, none⟩) n 4, .int .i64 0, .int .i64 0] 61)) (w6.heap.size + 1) (.slice (some ⟨w6.heap.size, 0, none⟩) 1 1) [⟨↑k - 1, ([0, 1, 2, 3] : List Int).take n, 0, 0⟩] := gate_lit w6 ⟨↑k - 1, ([0, 1, 2, 3] : List Int).take n, 0, 0⟩ _ hI
                  have hI2 := (hI.below (below1 w6 (.cells #[.int .i64 (↑k - 1), .slice (some ⟨X3, 0, none⟩) n 4, .int .i64 0, .int .i64 0] 61))).more (below1 w6 (.cells #[.int .i64 (↑k - 1), .slice (some ⟨X3, 0, none⟩) n 4, .int .i64 0, .int .i64 0] 61)).size
                  have k7 := bt (below1 w6 (.cells #[.int .i64 (↑k - 1), .slice (some ⟨X3, 0, none⟩) n 4, .int .i64 0, .int .i64 0] 61)) k6 k6.size
                  have hGt2 := hGt.more (B' := (w6.alloc (.cells #[.int .i64 (↑k - 1), .slice (some ⟨X3, 0, none⟩) n 4, .int .i64 0, .int .i64 0] 61)).heap.size) (by simp)
                  have HP := Lib.hid (HH.out.prints 3 0 _ [⟨↑k - 1, ([0, 1, 2, 3] : List Int).take n, 0, 0⟩] ⟨↑k - 1, ([0, 1, 2, 3] : List Int).take n, 0, 0⟩ _ _ hGt2 hI2 (HT.out.below k7))
                  have K7 := Lib.hid k7
                  clear hGt hGt2 hI2 k7 k6 hI
                  go_wp2_with fail
                  refine HP.out.mono ?_
                  rintro e w8 ⟨rfl, k8⟩
                  have k8 := bt k8 K7.out K7.out.size
                  clear K7 HP x0 x1 x2 x3 xf y0 y1 y2 y3 yf hG hG2
                  go_wp2_with fail
                  have R := intRow_new w8 3 [-9223372036854775808, -1, 0, 1, 999, 1000, 1001, 9223372036854775807]
                  have k9 := bt (below1 w8 (.cells (([-9223372036854775808, -1, 0, 1, 999, 1000, 1001, 9223372036854775807] : List Int).map (Value.int .i64)).toArray 3)) k8 k8.size
                  generalize hX8 : w8.heap.size = X8 at R
                  go_loopg [171] 8 (fun gk s171 wr => ∃ m : Nat, m + gk = 8 ∧ s171 = .int .i64 m ∧ IntRow wr X8 8 ∧ Below w.heap.size w wr)
                  case atStart => exact ⟨0, by omega, rfl, R, k9⟩
                  case round =>
                    clear R k9 hX8 k8 HR HW hS16 hS16' hS2
                    obtain ⟨m, hm, rfl, R, kb⟩ := hrel
                    cases gk with
                    | zero =>
                      obtain rfl : m = 8 := by omega
                      go_wp2_with fail
                      go_roundg g2
                      case measure => omega
                      case rel => exact ⟨n + 1, by omega, by go_num, kb⟩
                    | succ g3 =>
                      have hlm : (m : Int) < 8 := by omega
                      have hm0 : (0 : Int) ≤ (m : Int) := by omega
                      obtain ⟨v, hc⟩ := R.each m (by omega)
                      have hmin0 : (0 : Int) ≤ min (n : Int) 3 := by omega
                      have hmin3 : min (n : Int) 3 ≤ 3 := by omega
                      go_wp2_with fail
                      refine (prints_lit3 HH.out HT.out kb _ _ _ _ _ _ (by omega)).mono ?_
                      rintro e wa1 ⟨rfl, ka⟩
                      have R := R.below ka
                      have kb := bt ka kb kb.size
                      clear hc ka
                      go_wp2_with fail
                      refine (prints_lit3 HH.out HT.out kb _ _ _ _ _ _ (by omega)).mono ?_
                      rintro e wa2 ⟨rfl, ka⟩
                      have R := R.below ka
                      have kb := bt ka kb kb.size
                      clear ka
                      have HRp := Lib.hid (fun W => rep_lit HRep W v n hn4')
                      go_wp2_with fail
                      with_reducible refine (HRp.out _).mono ?_
                      rintro e w9 ⟨v9, z9, rfl, hI9, hG9, ka⟩
                      have R := R.below ka
                      have kb := bt ka kb kb.size
                      obtain ⟨A9, c9, rfl, _⟩ := hI9.form
                      clear HRp ka
                      go_wp2_with fail
                      refine (prints_one HH.out HT.out kb _ hG9 hI9).mono ?_
                      rintro e w10 ⟨rfl, ka⟩
                      have R := R.below ka
                      have kb := bt ka kb kb.size
                      clear ka hG9 hI9
                      go_wp2_with fail
                      go_roundg g3
                      case measure => omega
                      case rel => exact ⟨m + 1, by omega, by go_num, R, kb⟩
            | zero =>
              obtain rfl : k = 17 := by omega
              go_wp2_with fail
              refine (HR.out _ 65528 (by decide) (by decide) _).mono ?_
              rintro e w1 ⟨sp, rfl, hz, k1⟩
              have hz : sp.size ≤ 65528 := Nat.le_trans (Nat.le_of_eq hz) (by decide)
              have k1 := bt k1 kb kb.size
              clear kb
              go_wp2_with fail
              have R := strRow_new w1 9 [sp ++ ⟨#[119, 105, 114, 101, 115, 32, 49, 59]⟩, sp ++ ⟨#[119, 105, 114, 101, 115, 32, 49, 59, 10]⟩, sp ++ ⟨#[119, 105, 114, 101, 115, 32, 49, 59, 32]⟩, ⟨#[35]⟩ ++ sp ++ ⟨#[49, 50, 51, 52, 53, 54, 55]⟩, ⟨#[35]⟩ ++ sp ++ ⟨#[49, 50, 51, 52, 53, 54, 55, 56]⟩] 70000 (by
                intro s hs
                simp only [List.mem_cons, List.not_mem_nil, or_false] at hs
                rcases hs with rfl | rfl | rfl | rfl | rfl
                · exact cat2_le (m := 65528) (n := 100) hz (by decide) (by decide)
                · exact cat2_le (m := 65528) (n := 100) hz (by decide) (by decide)
                · exact cat2_le (m := 65528) (n := 100) hz (by decide) (by decide)
                · exact cat2_le (m := 65628) (n := 100) (cat2_le (m := 100) (n := 65528) (by decide) hz (by decide)) (by decide) (by decide)
                · exact cat2_le (m := 65628) (n := 100) (cat2_le (m := 100) (n := 65528) (by decide) hz (by decide)) (by decide) (by decide))
              have k2 := bt (below1 w1 (.cells (([sp ++ ⟨#[119, 105, 114, 101, 115, 32, 49, 59]⟩, sp ++ ⟨#[119, 105, 114, 101, 115, 32, 49, 59, 10]⟩, sp ++ ⟨#[119, 105, 114, 101, 115, 32, 49, 59, 32]⟩, ⟨#[35]⟩ ++ sp ++ ⟨#[49, 50, 51, 52, 53, 54, 55]⟩, ⟨#[35]⟩ ++ sp ++ ⟨#[49, 50, 51, 52, 53, 54, 55, 56]⟩] : List ByteArray).map Value.string).toArray 9)) k1 k1.size
              generalize hX : w1.heap.size = X at R
              go_loopg [231] 5 (fun gk s231 wr => ∃ m : Nat, m + gk = 5 ∧ s231 = .int .i64 m ∧ StrRow wr X 5 70000 ∧ Below w.heap.size w wr)
              case atStart => exact ⟨0, by omega, rfl, R, k2⟩
              case round =>
                clear R k2 hX k1 HR
                obtain ⟨m, hm, rfl, R, kb⟩ := hrel
                cases gk with
                | zero =>
                  obtain rfl : m = 5 := by omega
                  clear R
                  go_wp2_with fail
                  refine (HH.out.changes _ _ _ _ _ (by decide) (by decide) (HT.out.below kb)).mono ?_
                  rintro e w5 ⟨rfl, ka⟩
                  have kb := bt ka kb kb.size
                  clear ka
                  go_wp2_with fail
                  refine (HH.out.changes _ _ _ _ _ (by decide) (by decide) (HT.out.below kb)).mono ?_
                  rintro e w6 ⟨rfl, ka⟩
                  have kb := bt ka kb kb.size
                  clear ka
                  go_wp2_with fail
                  refine (HH.out.changes _ _ _ _ _ (by decide) (by decide) (HT.out.below kb)).mono ?_
                  rintro e w7 ⟨rfl, ka⟩
                  have kb := bt ka kb kb.size
                  clear ka
                  go_wp2_with fail
                  refine (HH.out.changes _ _ _ _ _ (by decide) (by decide) (HT.out.below kb)).mono ?_
                  rintro e w8 ⟨rfl, ka⟩
                  have kb := bt ka kb kb.size
                  clear ka
                  go_wp2_with fail
                  refine (HH.out.aw _ (HT.out.below kb)).mono ?_
                  rintro e w9 ⟨rfl, ka⟩
                  have kb := bt ka kb kb.size
                  clear ka
                  go_wp2_with fail
                  go_ret
                  exact ⟨rfl, kb⟩
                | succ g4 =>
                  have hlm : (m : Int) < 5 := by omega
                  have hm0 : (0 : Int) ≤ (m : Int) := by omega
                  obtain ⟨s, hs, hc⟩ := R.each m (by omega)
                  have hs2 : s.size ≤ 140737488351232 := by omega
                  go_wp2_with fail
                  refine (HH.out.toks _ _ hs2 (HT.out.below kb)).mono ?_
                  rintro e w5 ⟨rfl, ka⟩
                  have R := R.below ka
                  have kb := bt ka kb kb.size
                  clear ka hc
                  go_wp2_with fail
                  refine (HH.out.parses _ _ hs2 (HT.out.below kb)).mono ?_
                  rintro e w6 ⟨rfl, ka⟩
                  have R := R.below ka
                  have kb := bt ka kb kb.size
                  clear ka
                  go_wp2_with fail
                  refine (HH.out.changes _ _ _ _ _ hs2 (by decide) (HT.out.below kb)).mono ?_
                  rintro e w7 ⟨rfl, ka⟩
                  have R := R.below ka
                  have kb := bt ka kb kb.size
                  clear ka
                  go_wp2_with fail
                  refine (HH.out.changes _ _ _ _ _ (by decide) hs2 (HT.out.below kb)).mono ?_
                  rintro e w8 ⟨rfl, ka⟩
                  have R := R.below ka
                  have kb := bt ka kb kb.size
                  clear ka
                  go_wp2_with fail
                  go_roundg g4
                  case measure => omega
                  case rel => exact ⟨m + 1, by omega, by go_num, R, kb⟩
end Go.Proofs.YtonnegkpjmhomaaGreatDoor
end
