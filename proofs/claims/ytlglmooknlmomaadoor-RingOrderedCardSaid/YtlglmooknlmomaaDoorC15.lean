import Derived.Shelf.SlLaysN
import Derived.WalkKit
import Derived.Lib.Walk
import Derived.Lib.SliceRun
import Derived.Test.YtlglmooknlmomaaDoorC14
set_option linter.all false
section
namespace Go.Proofs.YtlglmooknlmomaaDoor
open Go.RowKit
theorem info8 : (Tryd.prog.info? 5).map (fun i => (i.zero, i.size, i.bytes)) = some (some (.int .u8 0), 1, 1) := by kernel_rfl
set_option maxHeartbeats 2000000 in
set_option maxRecDepth 100000 in
theorem clone_some (b off n c : Nat) (zs : List Int) (w : World) (hz : zs.length = n) (hn : n ≤ 300) (hc : ∀ j, j < zs.length → w.cell? ⟨b, off + j, none⟩ = some (.int .u8 (zs.getD j 0))) :
    Calls Tryd.prog 70 #[.slice (some ⟨b, off, none⟩) n c] w fun e w' => ∃ v', e = .returned v' ∧ w'.ownsRow w.heap.size 5 1 v' n (zs.map (Value.int .u8)) ∧ Below w.heap.size w w' := by
  have q22 : ∀ (w : World) (a : Option Addr) (n c n' c' : Nat), (binOp .eql 37 (.slice a n c) (.slice none n' c')).run Tryd.prog w = .ok (.bool a.isNone) w := fun w a n c n' c' => Lib.run_eql_slice_nil w _ _ a n c n' c' Tryd.underlying37
  have A : Aside (∀ j, j < zs.length → w.cell? ⟨b, off + j, none⟩ = some (.int .u8 (zs.getD j 0))) := hc
  clear hc
  obtain ⟨i0, hi, hz0, hz1, hz2⟩ := info_parts info8
  have HZ := Lib.hid hz
  clear hz
  go_enter Tryd.func70, Tryd.ntmps70
  go_wp2_with (at_builtin; refine wpList_append_own _ rfl _ _ 37 rfl w.heap.size 5 i0 (.int .u8 0) 1 1 Tryd.underlying37 hi hz0 hz1 hz2 rfl (by decide) _ _ _ rfl (World.ownsRow_made w #[] 0 (Nat.le_refl _) (Nat.zero_le _) rfl) ⟨b, off, none⟩ n c (zs.map (Value.int .u8)) rfl ?qc1 ?qc2 ?qc3 ?qc4 ?qc5 ?qc6 ?_)
  case qc1 => have := HZ.out; simp; omega
  case qc2 =>
    intro j u hj
    have hjn : j < zs.length := by
      have := (List.getElem?_eq_some_iff.1 hj).1
      simpa using this
    rw [Addr.add_lit]
    refine Lib.cell?_alloc_some _ ?_
    rw [A.out j hjn]
    have e : (zs.map (Value.int .u8))[j]? = some (Value.int .u8 (zs.getD j 0)) := by simp [List.getD, List.getElem?_eq_getElem hjn]
    rw [e] at hj
    exact hj
  case qc3 => intro u hu; obtain ⟨x, _, rfl⟩ := List.mem_map.1 hu; rfl
  case qc4 => unfold maxLen; omega
  case qc5 => omega
  case qc6 => simp
  intro v' w1 hown hgrow hnil
  go_wp2
  go_ret
  refine ⟨v', rfl, by simpa using hown, ?_⟩
  exact ((Below.refl _ w).alloc (Nat.le_refl _) _).grown hgrow (by simp) (by intro k hk; simp [Value.ownBlock] at hk; omega)
set_option maxHeartbeats 1000000 in
theorem clone_nil (n c : Nat) (w : World) :
    Calls Tryd.prog 70 #[.slice none n c] w fun e w' => e = .returned (.slice none 0 0) ∧ w' = w := by
  have q22 : ∀ (w : World) (a : Option Addr) (n c n' c' : Nat), (binOp .eql 37 (.slice a n c) (.slice none n' c')).run Tryd.prog w = .ok (.bool a.isNone) w := fun w a n c n' c' => Lib.run_eql_slice_nil w _ _ a n c n' c' Tryd.underlying37
  go_enter Tryd.func70, Tryd.ntmps70
  go_wp2
  go_ret
  exact ⟨rfl, rfl⟩
set_option maxHeartbeats 2000000 in
set_option maxRecDepth 100000 in
theorem clone_zero (a : Addr) (c : Nat) (w : World) :
    Calls Tryd.prog 70 #[.slice (some a) 0 c] w fun e w' => ∃ v', e = .returned v' ∧ w'.ownsRow w.heap.size 5 1 v' 0 [] ∧ Below w.heap.size w w' := by
  have q22 : ∀ (w : World) (a : Option Addr) (n c n' c' : Nat), (binOp .eql 37 (.slice a n c) (.slice none n' c')).run Tryd.prog w = .ok (.bool a.isNone) w := fun w a n c n' c' => Lib.run_eql_slice_nil w _ _ a n c n' c' Tryd.underlying37
  obtain ⟨i0, hi, hz0, hz1, hz2⟩ := info_parts info8
  go_enter Tryd.func70, Tryd.ntmps70
  go_wp2_with (at_builtin; refine wpList_append_own _ rfl _ _ 37 rfl w.heap.size 5 i0 (.int .u8 0) 1 1 Tryd.underlying37 hi hz0 hz1 hz2 rfl (by decide) _ _ _ rfl (World.ownsRow_made w #[] 0 (Nat.le_refl _) (Nat.zero_le _) rfl) a 0 c [] rfl rfl (by intro j u hj; simp at hj) (by intro u hu; cases hu) (by unfold maxLen; omega) (by omega) (by simp) ?_)
  intro v' w1 hown hgrow hnil
  go_wp2
  go_ret
  refine ⟨v', rfl, by simpa using hown, ?_⟩
  exact ((Below.refl _ w).alloc (Nat.le_refl _) _).grown hgrow (by simp) (by intro k hk; simp [Value.ownBlock] at hk; omega)
theorem clone_any (a : Option Addr) (n c : Nat) (w : World) (h : BytesAt w a n) (hn : n ≤ 300) (ha : a = none → n = 0) :
    Calls Tryd.prog 70 #[.slice a n c] w fun e w' => ∃ (a' : Option Addr) (c' : Nat), e = .returned (.slice a' n c') ∧ Below w.heap.size w w' ∧
      (n = 0 ∨ ∃ r, a' = some ⟨r, 0, none⟩ ∧ r < w'.heap.size ∧ ∀ j, j < n → ∃ z : Int, 0 ≤ z ∧ z ≤ 255 ∧ w'.cell? ⟨r, j, none⟩ = some (.int .u8 z)) := by
  by_cases h0 : n = 0
  · subst h0
    cases a with
    | none =>
      refine (clone_nil 0 c w).mono ?_
      rintro e w' ⟨rfl, rfl⟩
      exact ⟨none, 0, rfl, Below.refl _ _, .inl rfl⟩
    | some a =>
      refine (clone_zero a c w).mono ?_
      rintro e w' ⟨v', rfl, ho, hb⟩
      rcases ho.2 with ⟨rfl, _⟩ | ⟨g, cap, cur, rfl, _⟩
      · exact ⟨none, 0, rfl, hb, .inl rfl⟩
      · exact ⟨some ⟨g, 0, none⟩, cap, rfl, hb, .inl rfl⟩
  · obtain ⟨b, off, zs, rfl, hl, hz, hc⟩ := h.list h0
    refine (clone_some b off n c zs w hl hn hc).mono ?_
    rintro e w' ⟨v', rfl, ho, hb⟩
    rcases ho.2 with ⟨_, h⟩ | ⟨g, cap, cur, rfl, hg, hcur, _⟩
    · exact absurd h h0
    · refine ⟨some ⟨g, 0, none⟩, cap, rfl, hb, .inr ⟨g, rfl, (Array.getElem?_eq_some_iff.1 hcur).1, fun j hj => ?_⟩⟩
      have e := World.ownsRow.cellAt ho j (by omega)
      have e2 : (zs.map (Value.int .u8))[j]? = some (.int .u8 (zs.getD j 0)) := by simp [List.getD, List.getElem?_eq_getElem (show j < zs.length by omega)]
      have hm : zs.getD j 0 ∈ zs := by rw [List.getD, List.getElem?_eq_getElem (show j < zs.length by omega)]; exact List.getElem_mem _
      exact ⟨zs.getD j 0, (hz _ hm).1, (hz _ hm).2, e.trans e2⟩
theorem BytesAt.take {w : World} {a : Option Addr} {n m : Nat} (h : BytesAt w a n) (hm : m ≤ n) : BytesAt w a m := by
  rcases h with h | ⟨b, off, ha, hc⟩
  · exact .inl (by omega)
  · exact .inr ⟨b, off, ha, fun j hj => hc j (by omega)⟩
set_option maxHeartbeats 2000000 in
set_option maxRecDepth 100000 in
theorem store_calls (a : Option Addr) (n c : Nat) (w : World) (h : BytesAt w a n) (ha : a = none → n = 0) (hc : n ≤ c) :
    Calls Tryd.prog 26 #[.slice a n c] w fun e w' => ∃ b : Nat, e = .returned (.pointer (some ⟨b, 0, none⟩)) ∧ w.heap.size ≤ b ∧ StoreAt w' b b 0 ∧ Below w.heap.size w w' := by
  have hm : (min (n : Int) 300).toNat ≤ 300 := by omega
  have hm2 : (min (n : Int) 300).toNat ≤ n := by omega
  have H := clone_any a (min (n : Int) 300).toNat c w (h.take hm2) hm (fun e => by have := ha e; omega)
  have HH := Lib.hid H
  have Hm := Lib.hid hm
  clear H hm hm2 h ha
  go_enter Tryd.func26, Tryd.ntmps26
  go_wp2_with fail
  refine HH.out.mono ?_
  rintro e w1 ⟨a', c', rfl, hb, hr⟩
  have Hr := Lib.hid hr
  clear hr
  go_wp2_with fail
  go_ret
  refine ⟨w1.heap.size, rfl, hb.size, ⟨a', _, c', 0, 2463534242, Blk.new _ _ _, Hm.out, by omega, by omega, by omega, by omega, ?_, by simp⟩, hb.alloc hb.size _⟩
  rcases Hr.out with h | ⟨r, ha, hl, hz⟩
  · exact .inl h
  · exact .inr ⟨r, ha, by omega, hl, fun j hj => by
      obtain ⟨z, z0, z1, hc⟩ := hz j hj
      exact ⟨z, z0, z1, Lib.cell?_alloc_some _ hc⟩⟩
end Go.Proofs.YtlglmooknlmomaaDoor
end
