import Derived.StillTailTactics
import Derived.Deep.DeepCutAuto
import Derived.Test.YtonnegkpjmhomaaGreatDoorDLaid3
set_option linter.all false
section
namespace Go.Proofs.YtonnegkpjmhomaaGreatDoor
open Go.RowKit
theorem still_tail {P : Program} {id : Nat} {Q : Exit → Act → World → Prop} {a : Act} {w : World} {l : List Oper} (n : Nat) (hm : P.follows .mixedOrders = true) (hB : Region.lexTailB .any l.toArray n = true)
    (wd : World) (hwd : wd = w.drew) (h : wpStill P l.toArray wd (fun a' => wpList P l.toArray Q (l.drop n) a' wd) (l.take n) a) : (Code.region id l.toArray true).wp P Q a w := by
  subst hwd
  exact wp_region_still_tail n hm hB h
theorem wpStill_load_row {P : Program} {ops : Array Oper} {w : World} {Q : Act → Prop} {a : Act} {o : Oper} {rest : List Oper} (hw : Region.wanted o (yielded ops a.tmps) = true) (ty : TypeId) (x : Operand) (ho : o.op = .load ty x) (v : Value)
    (g : Nat) (hx : a.eval x = .pointer (some ⟨g, 0, none⟩)) (hl : (loadVar ty ⟨g, 0, none⟩).run P w = .ok v w) (h : wpStill P ops w Q rest (a.put o.dst v)) : wpStill P ops w Q (o :: rest) a := by
  unfold wpStill
  rw [if_pos hw]
  unfold Oper.still execOp
  simp only [ho, hx, Instr.loadAt, Instr.sureAddr, Sem.run_bind, Sem.run_pure, Result.andThen_ok, hl]
  exact ⟨rfl, h⟩
theorem load_mk {w : World} {g : Nat} {s : List UInt8} (h : Blk w g 184 (mk s)) : (loadVar 184 ⟨g, 0, none⟩).run Tryz.prog w = .ok (.agg (mk s)) w :=
  run_loadVar_row w g 184 184 (mk s) (0, 0) _ h Tryz.underlying184 rfl (by rw [mk_size]; kernel_rfl)
theorem drop_cons_get {l : List UInt8} {i : Nat} (h : i < l.length) : ∃ c, l.drop i = c :: l.drop (i + 1) ∧ ∀ hx, (bs l)[i]'hx = c := ⟨l[i], List.drop_eq_getElem_cons h, fun hx => bs_get l i hx⟩
set_option maxRecDepth 100000 in
set_option maxHeartbeats 2000000 in
theorem run_calls (l : List UInt8) (hl : l.length ≤ 1000000) (i : Nat) (hi : i ≤ l.length) (s : List UInt8) (w : World) :
    Calls Tryz.prog 140 #[.string (bs l), .int .i64 i, .agg (mk s)] w fun e w' => e = .returned (.int .i64 ((i + ((l.drop i).takeWhile (hasB s)).length : Nat) : Int)) ∧ Below w.heap.size w w' := by
  have hsz : (bs l).size = l.length := bs_size l
  go_enter Tryz.func140, Tryz.ntmps140
  go_wp2_with fail
  go_loopw [1] (fun s1 wr => ∃ k : Nat, k ≤ l.length ∧ s1 = .int .i64 k ∧ i + ((l.drop i).takeWhile (hasB s)).length = k + ((l.drop k).takeWhile (hasB s)).length ∧ Blk wr w.heap.size 184 (mk s) ∧ Below w.heap.size w wr) (fun s1 _ => l.length - (intOf s1).toNat)
  case atStart => exact ⟨i, hi, rfl, rfl, Blk.new _ _ _, below1 _ _⟩
  case round =>
    obtain ⟨k, hk, rfl, he, hm, hb⟩ := hrel
    have He := Lib.hid he
    clear he
    obtain ⟨wd, hwd⟩ : ∃ wd, wd = wr.drew := ⟨_, rfl⟩
    have hm1 := hm.drew
    have hb1 := hb.drew
    rw [← hwd] at hm1 hb1
    by_cases hlt : k < l.length
    · obtain ⟨c, hc, hg⟩ := drop_cons_get hlt
      have Hc := Lib.hid hc
      clear hc
      go_wp2_with fail
      refine still_tail 9 (by kernel_rfl) (by kernel_rfl) wd hwd ?_
      simp only [List.take_succ_cons, List.take_zero, List.drop_succ_cons, List.drop_zero]
      still_step
      still_step
      still_step
      still_step
      still_step
      refine wpStill_load_row (by simp [Region.wanted, yielded]) 184 _ rfl (.agg (mk s)) w.heap.size rfl (load_mk hm1) ?_
      repeat still_step
      refine wpStill_nil ?_
      clear hwd
      cases hh : hasB s c
      · have Hr : Hid (i + ((l.drop i).takeWhile (hasB s)).length = k) := by show _ = _; rw [He.out, Hc.out, List.takeWhile_cons_of_neg (by rw [hh]; decide)]; rfl
        go_wp2_with (go_at_call 135; (with_reducible refine (has_any s c _ hh _).mono ?_); rintro e w2 ⟨rfl, hb2⟩)
        go_ret
        exact ⟨by rw [Hr.out]; rfl, bt hb2 hb1 hb1.size⟩
      · have Hr : Hid (i + ((l.drop i).takeWhile (hasB s)).length = (k + 1) + ((l.drop (k + 1)).takeWhile (hasB s)).length) := by show _ = _; rw [He.out, Hc.out, List.takeWhile_cons_of_pos hh, List.length_cons]; omega
        go_wp2_with (go_at_call 135; (with_reducible refine (has_any s c _ hh _).mono ?_); rintro e w2 ⟨rfl, hb2⟩)
        go_roundw
        case rel => exact ⟨k + 1, by omega, by go_num, Hr.out, hm1.below hb2 hm1.lt, bt hb2 hb1 hb1.size⟩
        case measure => simp [intOf]; omega
    · have Hr : Hid (i + ((l.drop i).takeWhile (hasB s)).length = k) := by show _ = _; rw [He.out, List.drop_of_length_le (by omega)]; rfl
      go_wp2_with fail
      refine still_tail 9 (by kernel_rfl) (by kernel_rfl) wd hwd ?_
      simp only [List.take_succ_cons, List.take_zero, List.drop_succ_cons, List.drop_zero]
      clear hwd
      repeat still_step
      refine wpStill_nil ?_
      go_wp2_with fail
      go_ret
      exact ⟨by rw [Hr.out]; rfl, hb1⟩
end Go.Proofs.YtonnegkpjmhomaaGreatDoor
end
