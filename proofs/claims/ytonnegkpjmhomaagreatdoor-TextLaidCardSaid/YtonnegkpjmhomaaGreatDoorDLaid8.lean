import Derived.BigQuiet
import Derived.Deep.QuietTactic
import Derived.Test.YtonnegkpjmhomaaGreatDoorDLaid1
import Derived.Test.YtonnegkpjmhomaaGreatDoorDLaid7
set_option linter.all false
section
namespace Go.Proofs.YtonnegkpjmhomaaGreatDoor
open Go.RowKit
set_option maxHeartbeats 1000000 in
theorem Arity_calls (k : Int) (w : World) : Calls Tryz.prog 77 #[.int .i64 k] w fun e w' => e = .returned (.int .i64 (arity k)) ∧ w = w' := by
  by_cases h1 : k = 12
  · subst h1
    go_enter Tryz.func77, Tryz.ntmps77
    go_wp2
    go_ret
    exact ⟨rfl, rfl⟩
  · have h1b : (k == 12) = false := by simpa using h1
    by_cases h2 : 9 ≤ k
    · by_cases h3 : k ≤ 11
      · have Hv : Hid (arity k = 2) := by show _ = _; unfold arity; rw [if_neg h1, if_pos ⟨h2, h3⟩]
        clear h1
        go_enter Tryz.func77, Tryz.ntmps77
        go_wp2
        go_ret
        exact ⟨by rw [Hv.out]; rfl, rfl⟩
      · by_cases h4 : k ≤ 14
        · have Hv : Hid (arity k = 1) := by show _ = _; unfold arity; rw [if_neg h1, if_neg (by omega), if_pos (by omega)]
          clear h1
          go_enter Tryz.func77, Tryz.ntmps77
          go_wp2
          go_ret
          exact ⟨by rw [Hv.out]; rfl, rfl⟩
        · have Hv : Hid (arity k = 0) := by show _ = _; unfold arity; rw [if_neg h1, if_neg (by omega), if_neg (by omega)]
          clear h1
          go_enter Tryz.func77, Tryz.ntmps77
          go_wp2
          go_ret
          exact ⟨by rw [Hv.out]; rfl, rfl⟩
    · by_cases h4 : 1 ≤ k
      · have Hv : Hid (arity k = 1) := by show _ = _; unfold arity; rw [if_neg h1, if_neg (by omega), if_pos (by omega)]
        clear h1
        go_enter Tryz.func77, Tryz.ntmps77
        go_wp2
        go_ret
        exact ⟨by rw [Hv.out]; rfl, rfl⟩
      · have Hv : Hid (arity k = 0) := by show _ = _; unfold arity; rw [if_neg h1, if_neg (by omega), if_neg (by omega)]
        clear h1
        go_enter Tryz.func77, Tryz.ntmps77
        go_wp2
        go_ret
        exact ⟨by rw [Hv.out]; rfl, rfl⟩
theorem cell_lt' {w : World} {b o : Nat} {v : Value} (h : w.cell? ⟨b, o, none⟩ = some v) : b < w.heap.size := World.block_lt_of_cell? w ⟨b, o, none⟩ h
structure IntsAt (w : World) (B : Nat) (v : Value) (zs : List Int) : Prop where
  form : ∃ A c, v = .slice A zs.length c ∧ zs.length ≤ c ∧ c ≤ maxLen ∧ (zs ≠ [] → ∃ g o, A = some ⟨g, o, none⟩ ∧ g < B ∧ ∀ j, j < zs.length → w.cell? ⟨g, o + j, none⟩ = some (.int .i64 (zs.getD j 0)))
theorem IntsAt.keep {w w' : World} {B : Nat} {v : Value} {zs : List Int} (h : IntsAt w B v zs) (hk : ∀ p : Addr, p.block < B → w'.cell? p = w.cell? p) : IntsAt w' B v zs := by
  obtain ⟨A, c, h1, h2, h3, h4⟩ := h.form
  exact ⟨A, c, h1, h2, h3, fun hz => by
    obtain ⟨g, o, ha, hg, hc⟩ := h4 hz
    exact ⟨g, o, ha, hg, fun j hj => (hk _ hg).trans (hc j hj)⟩⟩
theorem IntsAt.below {w w' : World} {B : Nat} {v : Value} {zs : List Int} (h : IntsAt w B v zs) (hb : Below B w w') : IntsAt w' B v zs := h.keep fun _ hp => hb.cell hp
theorem IntsAt.more {w : World} {B B' : Nat} {v : Value} {zs : List Int} (h : IntsAt w B v zs) (hB : B ≤ B') : IntsAt w B' v zs := by
  obtain ⟨A, c, h1, h2, h3, h4⟩ := h.form
  exact ⟨A, c, h1, h2, h3, fun hz => by
    obtain ⟨g, o, ha, hg, hc⟩ := h4 hz
    exact ⟨g, o, ha, by omega, hc⟩⟩
theorem ints_own {w : World} {base : Nat} {v : Value} {zs : List Int} (h : w.ownsRow base 3 1 v zs.length (zs.map (Value.int .i64))) : IntsAt w w.heap.size v zs := by
  rcases h.2 with ⟨rfl, h0⟩ | ⟨g, cap, cur, rfl, _, hg, hnc, hcm, hcs, htk⟩
  · obtain rfl : zs = [] := List.eq_nil_of_length_eq_zero h0
    exact ⟨none, 0, rfl, by simp, by unfold maxLen; omega, fun h => absurd rfl h⟩
  · refine ⟨_, cap, rfl, hnc, hcm, fun _ => ⟨g, 0, rfl, (Array.getElem?_eq_some_iff.1 hg).1, fun j hj => ?_⟩⟩
    rw [Nat.zero_add, cell_of_row w g j cur _ (0, 0) hg]
    have : (cur.toList.take (zs.length * 1))[j]? = (zs.map (Value.int .i64))[j]? := by rw [htk]
    rw [List.getElem?_take, if_pos (by omega), List.getElem?_map] at this
    rw [List.getD_eq_getElem?_getD]
    rw [List.getElem?_eq_getElem hj] at this ⊢
    simpa using this
set_option maxHeartbeats 1000000 in
theorem wire_calls (n wires : Int) (Bw : Nat) (w : World) (h : w.cell? ⟨Bw, 0, none⟩ = some (.int .i64 wires)) :
    Calls Tryz.prog 130 #[.int .i64 n, .pointer (some ⟨Bw, 0, none⟩)] w fun e w' => e = .returned (.bool (wireB wires n)) ∧ w = w' := by
  by_cases h1 : 0 ≤ n
  · have Hv : Hid (wireB wires n = decide (n < wires)) := by show _ = _; unfold wireB; rw [decide_eq_true h1]; rfl
    rw [Hv.out]
    go_enter Tryz.func130, Tryz.ntmps130
    go_wp2
    go_ret
    exact ⟨rfl, rfl⟩
  · have Hv : Hid (wireB wires n = false) := by show _ = _; unfold wireB; rw [decide_eq_false h1]; rfl
    rw [Hv.out]
    go_enter Tryz.func130, Tryz.ntmps130
    go_wp2
    go_ret
    exact ⟨rfl, rfl⟩
set_option maxHeartbeats 400000 in
theorem every1_calls (n wires : Int) (Bw Bf : Nat) (w : World) (h : w.cell? ⟨Bw, 0, none⟩ = some (.int .i64 wires)) (h2 : w.cell? ⟨Bf, 0, none⟩ = some (.func (.func 130) #[] #[.pointer (some ⟨Bw, 0, none⟩)])) :
    Calls Tryz.prog 165 #[.int .i64 n, .pointer (some ⟨Bf, 0, none⟩)] w fun e w' => e = .returned (.bool (!wireB wires n)) ∧ w = w' := by
  go_enter Tryz.func165, Tryz.ntmps165
  go_wp2_with fail
  refine (wire_calls n wires Bw _ h).mono ?_
  rintro e w' ⟨rfl, rfl⟩
  go_wp2
  go_ret
  exact ⟨rfl, rfl⟩
def fiW (wires : Int) : Nat → List Int → Int
  | _, [] => -1
  | i, x :: l => if wireB wires x then fiW wires (i + 1) l else i
theorem fiW_all (wires : Int) (l : List Int) (i : Nat) : (!decide (0 ≤ fiW wires i l)) = l.all (wireB wires) := by
  induction l generalizing i with
  | nil => rfl
  | cons x l ih =>
    rw [fiW, List.all_cons]
    cases h : wireB wires x
    · simp
    · rw [if_pos rfl, ih]; simp
set_option maxHeartbeats 1000000 in
theorem indexFunc_calls (zs : List Int) (wires : Int) (v : Value) (B Bw Bf : Nat) (w : World) (hv : IntsAt w B v zs) (h : w.cell? ⟨Bw, 0, none⟩ = some (.int .i64 wires)) (h2 : w.cell? ⟨Bf, 0, none⟩ = some (.func (.func 130) #[] #[.pointer (some ⟨Bw, 0, none⟩)])) :
    Calls Tryz.prog 118 #[v, .func (.func 165) #[] #[.pointer (some ⟨Bf, 0, none⟩)]] w fun e w' => e = .returned (.int .i64 (fiW wires 0 zs)) ∧ w = w' := by
  obtain ⟨A, c, rfl, hc1, hc2, hc3⟩ := hv.form
  unfold maxLen at hc2
  go_enter Tryz.func118, Tryz.ntmps118
  go_wp2_with fail
  go_loop [8, 4, 5] (fun i _ _ => ∃ k : Nat, k ≤ zs.length ∧ i = .int .i64 k ∧ fiW wires 0 zs = fiW wires k (zs.drop k)) (fun i _ _ => zs.length - (intOf i).toNat)
  case atStart => exact ⟨0, by simp, rfl, rfl⟩
  case round =>
    obtain ⟨k, hk, rfl, hf⟩ := hrel
    have Hf := Lib.hid hf
    clear hf
    by_cases hlt : k < zs.length
    · obtain ⟨g, o, rfl, _, hcell⟩ := hc3 (by intro h0; subst h0; simp at hlt)
      obtain ⟨x, Hc, hzk⟩ : ∃ x, Hid (zs.drop k = x :: zs.drop (k + 1)) ∧ w.cell? ⟨g, o + k, none⟩ = some (.int .i64 x) :=
        ⟨zs[k], by show zs.drop k = _; rw [List.drop_eq_getElem_cons hlt], by rw [hcell k hlt, List.getD_eq_getElem?_getD, List.getElem?_eq_getElem hlt]; rfl⟩
      clear hcell hc3
      go_wp2_with fail
      refine (every1_calls _ wires Bw Bf _ h h2).mono ?_
      rintro e w' ⟨rfl, rfl⟩
      cases hi : wireB wires x
      · have Hr : Hid (fiW wires 0 zs = k) := by show _ = _; rw [Hf.out, Hc.out, fiW, hi]; rfl
        go_wp2
        go_ret
        exact ⟨by rw [Hr.out]; rfl, rfl⟩
      · have Hr : Hid (fiW wires 0 zs = fiW wires (k + 1) (zs.drop (k + 1))) := by show _ = _; rw [Hf.out, Hc.out, fiW, hi]; rfl
        go_wp2
        go_round
        case rel => exact ⟨k + 1, by omega, by go_num, Hr.out⟩
        case measure => simp [intOf]; omega
    · have Hr : Hid (fiW wires 0 zs = -1) := by show _ = _; rw [Hf.out, List.drop_of_length_le (by omega)]; rfl
      go_wp2
      go_ret
      exact ⟨by rw [Hr.out]; rfl, rfl⟩
set_option maxHeartbeats 1000000 in
theorem every_calls (zs : List Int) (wires : Int) (v : Value) (B Bw : Nat) (w : World) (hB : B ≤ w.heap.size) (hv : IntsAt w B v zs) (h : w.cell? ⟨Bw, 0, none⟩ = some (.int .i64 wires)) :
    Calls Tryz.prog 131 #[v, .func (.func 130) #[] #[.pointer (some ⟨Bw, 0, none⟩)]] w fun e w' => e = .returned (.bool (zs.all (wireB wires))) ∧ Below w.heap.size w w' := by
  have hBw := cell_lt' h
  have hb := below1 w (.cells #[.func (.func 130) #[] #[.pointer (some ⟨Bw, 0, none⟩)]] 123)
  have Hf := Lib.hid (fiW_all wires zs 0)
  have HI := Lib.hid (indexFunc_calls zs wires v B Bw w.heap.size (w.alloc (.cells #[.func (.func 130) #[] #[.pointer (some ⟨Bw, 0, none⟩)]] 123)) (hv.below (hb.mono hB)) ((hb.cell (p := ⟨Bw, 0, none⟩) hBw).trans h) (Blk.new w _ _).one)
  go_enter Tryz.func131, Tryz.ntmps131
  go_wp2_with (go_at_call 164; go_in)
  refine HI.out.mono ?_
  rintro e w' ⟨rfl, rfl⟩
  go_wp2
  go_ret
  exact ⟨by rw [← Hf.out]; rfl, hb⟩
end Go.Proofs.YtonnegkpjmhomaaGreatDoor
end
section
namespace Go.Proofs.YtonnegkpjmhomaaGreatDoor
open Go.RowKit
theorem Contains_calls (zs : List Int) (A : Option Addr) (k c B : Nat) (x : Int) (w : World) (hk : k ≤ zs.length) (hz : zs.length ≤ 1000000) (hc : zs ≠ [] → ∃ g o, A = some ⟨g, o, none⟩ ∧ g < B ∧ ∀ j, j < zs.length → w.cell? ⟨g, o + j, none⟩ = some (.int .i64 (zs.getD j 0))) :
    Calls Tryz.prog 132 #[.slice A k c, .int .i64 x] w fun e w' => e = .returned (.bool ((zs.take k).contains x)) ∧ w = w' := by
  by_cases hn : zs = []
  · subst hn
    obtain rfl : k = 0 := by simpa using hk
    exact (Tryz.slices_Contains_int_empty A c x w).mono fun _ _ ⟨he, hw⟩ => ⟨he, hw.symm⟩
  · obtain ⟨g, o, rfl, _, h⟩ := hc hn
    exact (Tryz.slices_Contains_int g o k c zs x w hk (by omega) h).mono fun _ _ ⟨he, hw⟩ => ⟨he, hw.symm⟩
set_option maxRecDepth 100000 in
set_option maxHeartbeats 8000000 in
theorem gate_calls (W Bt : Int) (gv nv wv : Value) (g : Gt) (B : Nat) (w : World) (hB : B ≤ w.heap.size) (hv : IntsAt w B wv g.wires) (hl : g.wires.length ≤ 1000000) :
    Calls Tryz.prog 90 #[.agg #[.int .i64 W, .int .i64 Bt, gv, nv], .agg #[.int .i64 g.kind, wv, .int .i64 g.bit, .int .i64 g.ifn]] w fun e w' => e = .returned (.int .i64 (chkG W Bt g)) ∧ Below w.heap.size w w' := by
  obtain ⟨k, zs, bit, ifn⟩ := g
  dsimp only at hv hl ⊢
  obtain ⟨A, c, rfl, hc1, hc2, hc3⟩ := hv.form
  have hx := (Blk.new w 144 #[.int .i64 W, .int .i64 Bt, gv, nv]).alloc (.cells #[.int .i64 k, .slice A zs.length c, .int .i64 bit, .int .i64 ifn] 61)
  have hy := Blk.at_ (w.alloc (.cells #[.int .i64 W, .int .i64 Bt, gv, nv] 144)) 61 #[.int .i64 k, .slice A zs.length c, .int .i64 bit, .int .i64 ifn] (n := w.heap.size + 1) (by simp)
  have hb := below2 w (.cells #[.int .i64 W, .int .i64 Bt, gv, nv] 144) (.cells #[.int .i64 k, .slice A zs.length c, .int .i64 bit, .int .i64 ifn] 61)
  have HA := Lib.hid (fun W' => Arity_calls k W')
  have Hc : Hid (chkG W Bt ⟨k, zs, bit, ifn⟩ = if arity k = 0 then 3 else if (zs.length : Int) ≠ arity k then 2 else if zs.all (wireB W) = false then 1 else if dupI zs then 5 else if ifn < 0 ∨ Bt < ifn ∨ (k = 13 ∧ (bit < 0 ∨ Bt ≤ bit)) then 1 else if ((k = 13 ∨ k = 14) ∧ ifn ≠ 0) ∨ (k ≠ 13 ∧ bit ≠ 0) then 7 else 0) := rfl
  generalize chkG W Bt ⟨k, zs, bit, ifn⟩ = cg at *
  have hv := hv.below (hb.mono hB)
  have hc3 : zs ≠ [] → ∃ g' o, A = some ⟨g', o, none⟩ ∧ g' < B ∧ ∀ j, j < zs.length → ((w.alloc (.cells #[.int .i64 W, .int .i64 Bt, gv, nv] 144)).alloc (.cells #[.int .i64 k, .slice A zs.length c, .int .i64 bit, .int .i64 ifn] 61)).cell? ⟨g', o + j, none⟩ = some (.int .i64 (zs.getD j 0)) := fun hz => by
    obtain ⟨g', o, ha, hg, hcell⟩ := hc3 hz
    exact ⟨g', o, ha, hg, fun j hj => (hb.cell (p := ⟨g', o + j, none⟩) (by show g' < _; omega)).trans (hcell j hj)⟩
  have hz0 : B ≤ ((w.alloc (.cells #[.int .i64 W, .int .i64 Bt, gv, nv] 144)).alloc (.cells #[.int .i64 k, .slice A zs.length c, .int .i64 bit, .int .i64 ifn] 61)).heap.size := by simp; omega
  obtain ⟨ar, har⟩ : ∃ a, arity k = a := ⟨_, rfl⟩
  rw [har] at HA Hc
  clear har
  go_enter Tryz.func90, Tryz.ntmps90
  go_upto_region 2 with fail
  generalize (w.alloc (.cells #[.int .i64 W, .int .i64 Bt, gv, nv] 144)).alloc (.cells #[.int .i64 k, .slice A zs.length c, .int .i64 bit, .int .i64 ifn] 61) = wa at *
  obtain ⟨x0, x1, x2, x3, xf⟩ := hx.cells4
  obtain ⟨y0, y1, y2, y3, yf⟩ := hy.cells4
  by_cases h0 : ar = 0
  · have Hr : Hid (cg = 3) := by show _ = _; rw [Hc.out, if_pos h0]
    subst h0
    go_wp2_with (go_at_call 77; (with_reducible refine (HA.out _).mono ?_); rintro e w1 ⟨rfl, rfl⟩)
    go_ret
    exact ⟨by rw [Hr.out]; rfl, hb⟩
  · have h0b : (ar == 0) = false := by simpa using h0
    go_upto_region 4 with (go_at_call 77; (with_reducible refine (HA.out _).mono ?_); rintro e w1 ⟨rfl, rfl⟩)
    go_quiet ((go_at_call 77; exact Calls.quiet_of_same ((HA.out _).mono fun _ _ h => ⟨h.1, h.2.symm⟩)))
    have hx := hx.drewN nq
    have hy := hy.drewN nq
    have hb := belowN hb nq
    have hv : IntsAt (wa.drewN nq) B (.slice A zs.length c) zs := hv.keep fun _ _ => rfl
    have hc3 : zs ≠ [] → ∃ g' o, A = some ⟨g', o, none⟩ ∧ g' < B ∧ ∀ j, j < zs.length → (wa.drewN nq).cell? ⟨g', o + j, none⟩ = some (.int .i64 (zs.getD j 0)) := hc3
    have hz0 : B ≤ (wa.drewN nq).heap.size := hz0
    clear x0 x1 x2 x3 xf y0 y1 y2 y3 yf
    generalize wa.drewN nq = wb at *
    obtain ⟨x0, x1, x2, x3, xf⟩ := hx.cells4
    obtain ⟨y0, y1, y2, y3, yf⟩ := hy.cells4
    by_cases h1 : (zs.length : Int) = ar
    · have h1b : ((zs.length : Int) != ar) = false := by simpa using h1
      have HE := Lib.hid (every_calls zs W _ B w.heap.size wb hz0 hv x0)
      cases hall : zs.all (wireB W)
      · have Hr : Hid (cg = 1) := by show _ = _; rw [Hc.out, if_neg h0, if_neg (by omega), if_pos hall]
        rw [hall] at HE
        clear h0 h1
        go_wp2_with (go_at_call 131; (with_reducible refine HE.out.mono ?_); rintro e w1 ⟨rfl, hb1⟩)
        go_ret
        exact ⟨by rw [Hr.out]; rfl, bt hb1 hb hb.size⟩
      · have Hc2 : Hid (cg = if dupI zs then 5 else if ifn < 0 ∨ Bt < ifn ∨ (k = 13 ∧ (bit < 0 ∨ Bt ≤ bit)) then 1 else if ((k = 13 ∨ k = 14) ∧ ifn ≠ 0) ∨ (k ≠ 13 ∧ bit ≠ 0) then 7 else 0) := by
          show _ = _; rw [Hc.out, if_neg h0, if_neg (by omega), if_neg (by rw [hall]; decide)]
        rw [hall] at HE
        clear h0 h1 hall Hc HA h0b
        go_wp2_with fail
        refine HE.out.mono ?_
        rintro e w1 ⟨rfl, hb1⟩
        have hbw := bt hb1 hb hb.size
        have hx := hx.below hb1 hx.lt
        have hy := hy.below hb1 hy.lt
        have hc3 : zs ≠ [] → ∃ g' o, A = some ⟨g', o, none⟩ ∧ g' < B ∧ ∀ j, j < zs.length → w1.cell? ⟨g', o + j, none⟩ = some (.int .i64 (zs.getD j 0)) := fun hz => by
          obtain ⟨g', o, ha, hg, hcell⟩ := hc3 hz
          exact ⟨g', o, ha, hg, fun j hj => (hb1.cell (p := ⟨g', o + j, none⟩) (by show g' < _; omega)).trans (hcell j hj)⟩
        clear x0 x1 x2 x3 xf y0 y1 y2 y3 yf hv HE hb hb1
        obtain ⟨x0, x1, x2, x3, xf⟩ := hx.cells4
        obtain ⟨y0, y1, y2, y3, yf⟩ := hy.cells4
        go_wp2_with fail
        go_loop [32, 6, 7] (fun i _ _ => ∃ n : Nat, n ≤ zs.length ∧ i = .int .i64 n ∧ dupI zs = dupF (zs.take n) (zs.drop n)) (fun i _ _ => zs.length - (intOf i).toNat)
        case atStart => exact ⟨0, by simp, rfl, rfl⟩
        case round =>
          obtain ⟨n, hn, rfl, hd⟩ := hrel
          have Hd := Lib.hid hd
          clear hd
          by_cases hlt : n < zs.length
          · obtain ⟨g', o, rfl, hg, hcell⟩ := hc3 (by intro h0; subst h0; simp at hlt)
            obtain ⟨x, Hx, hxk⟩ : ∃ x, Hid (zs.drop n = x :: zs.drop (n + 1) ∧ zs.take (n + 1) = zs.take n ++ [x]) ∧ w1.cell? ⟨g', o + n, none⟩ = some (.int .i64 x) :=
              ⟨zs[n], ⟨by rw [List.drop_eq_getElem_cons hlt], by rw [List.take_succ_eq_append_getElem hlt]⟩, by rw [hcell n hlt, List.getD_eq_getElem?_getD, List.getElem?_eq_getElem hlt]; rfl⟩
            have HK := Lib.hid (Contains_calls zs (some ⟨g', o, none⟩) n c B x w1 (by omega) hl (fun _ => ⟨g', o, rfl, hg, hcell⟩))
            clear hcell hc3
            have hnc : n ≤ c := by omega
            cases hi : (zs.take n).contains x
            · have Hr : Hid (dupI zs = dupF (zs.take (n + 1)) (zs.drop (n + 1))) := by show _ = _; rw [Hd.out, Hx.out.1, dupF, hi, Hx.out.2]; rfl
              rw [hi] at HK
              clear hi
              go_wp2_with (go_at_call 132; (with_reducible refine HK.out.mono ?_); rintro e w2 ⟨rfl, rfl⟩)
              go_round
              case rel => exact ⟨n + 1, by omega, by go_num, Hr.out⟩
              case measure => simp [intOf]; omega
            · have Hr : Hid (cg = 5) := by show _ = _; rw [Hc2.out, if_pos (by rw [Hd.out, Hx.out.1, dupF, hi]; rfl)]
              rw [hi] at HK
              clear hi
              go_wp2_with (go_at_call 132; (with_reducible refine HK.out.mono ?_); rintro e w2 ⟨rfl, rfl⟩)
              go_ret
              exact ⟨by rw [Hr.out]; rfl, hbw⟩
          · have Hc3 : Hid (cg = if ifn < 0 ∨ Bt < ifn ∨ (k = 13 ∧ (bit < 0 ∨ Bt ≤ bit)) then 1 else if ((k = 13 ∨ k = 14) ∧ ifn ≠ 0) ∨ (k ≠ 13 ∧ bit ≠ 0) then 7 else 0) := by
              show _ = _; rw [Hc2.out, if_neg]; rw [Hd.out, List.drop_of_length_le (by omega)]; simp [dupF]
            obtain ⟨v, hv⟩ : ∃ v, (if ifn < 0 ∨ Bt < ifn ∨ (k = 13 ∧ (bit < 0 ∨ Bt ≤ bit)) then 1 else if ((k = 13 ∨ k = 14) ∧ ifn ≠ 0) ∨ (k ≠ 13 ∧ bit ≠ 0) then 7 else 0 : Int) = v := ⟨_, rfl⟩
            rw [hv] at Hc3
            have Hv := Lib.hid hv
            clear hv hc3
            go_wp2_with fail
            all_goals first
              | (have ev : v = 1 := (by rw [← Hv.out]; (repeat' split) <;> first | rfl | (exfalso; simp_all; done) | (exfalso; simp_all; omega)); go_ret; exact ⟨by rw [Hc3.out, ev]; rfl, hbw⟩)
              | (have ev : v = 7 := (by rw [← Hv.out]; (repeat' split) <;> first | rfl | (exfalso; simp_all; done) | (exfalso; simp_all; omega)); go_ret; exact ⟨by rw [Hc3.out, ev]; rfl, hbw⟩)
              | (have ev : v = 0 := (by rw [← Hv.out]; (repeat' split) <;> first | rfl | (exfalso; simp_all; done) | (exfalso; simp_all; omega)); go_ret; exact ⟨by rw [Hc3.out, ev]; rfl, hbw⟩)
    · have Hr : Hid (cg = 2) := by show _ = _; rw [Hc.out, if_neg h0, if_pos h1]
      have h1b : ((zs.length : Int) != ar) = true := by simpa using h1
      clear h0 h1
      go_wp2_with fail
      go_ret
      exact ⟨by rw [Hr.out]; rfl, hb⟩
end Go.Proofs.YtonnegkpjmhomaaGreatDoor
end
section
namespace Go.Proofs.YtonnegkpjmhomaaGreatDoor
open Go.RowKit
structure GatesAt (w : World) (B : Nat) (v : Value) (gs : List Gt) : Prop where
  form : ∃ A c, v = .slice A gs.length c ∧ gs.length ≤ c ∧ c ≤ maxLen ∧ (gs ≠ [] → ∃ b o, A = some ⟨b, o, none⟩ ∧ b < B ∧ ∀ j g, gs[j]? = some g → ∃ wv, IntsAt w B wv g.wires ∧
    w.cell? ⟨b, o + j * 4, none⟩ = some (.int .i64 g.kind) ∧ w.cell? ⟨b, o + j * 4 + 1, none⟩ = some wv ∧ w.cell? ⟨b, o + j * 4 + 2, none⟩ = some (.int .i64 g.bit) ∧ w.cell? ⟨b, o + j * 4 + 3, none⟩ = some (.int .i64 g.ifn))
theorem GatesAt.below {w w' : World} {B : Nat} {v : Value} {gs : List Gt} (h : GatesAt w B v gs) (hb : Below B w w') : GatesAt w' B v gs := by
  obtain ⟨A, c, h1, h2, h3, h4⟩ := h.form
  refine ⟨A, c, h1, h2, h3, fun hz => ?_⟩
  obtain ⟨b, o, ha, hg, hc⟩ := h4 hz
  refine ⟨b, o, ha, hg, fun j g hj => ?_⟩
  obtain ⟨wv, i1, c0, c1, c2, c3⟩ := hc j g hj
  exact ⟨wv, i1.below hb, (hb.cell (p := ⟨b, o + j * 4, none⟩) hg).trans c0, (hb.cell (p := ⟨b, o + j * 4 + 1, none⟩) hg).trans c1, (hb.cell (p := ⟨b, o + j * 4 + 2, none⟩) hg).trans c2, (hb.cell (p := ⟨b, o + j * 4 + 3, none⟩) hg).trans c3⟩
theorem GatesAt.more {w : World} {B B' : Nat} {v : Value} {gs : List Gt} (h : GatesAt w B v gs) (hB : B ≤ B') : GatesAt w B' v gs := by
  obtain ⟨A, c, h1, h2, h3, h4⟩ := h.form
  refine ⟨A, c, h1, h2, h3, fun hz => ?_⟩
  obtain ⟨b, o, ha, hg, hc⟩ := h4 hz
  refine ⟨b, o, ha, by omega, fun j g hj => ?_⟩
  obtain ⟨wv, i1, c0⟩ := hc j g hj
  exact ⟨wv, i1.more hB, c0⟩
theorem chkGs_cons (W Bt : Int) (g : Gt) (l : List Gt) : chkGs W Bt (g :: l) = if chkG W Bt g = 0 then chkGs W Bt l else chkG W Bt g := rfl
set_option maxRecDepth 100000 in
set_option maxHeartbeats 8000000 in
theorem Check_calls (W Bt : Int) (gv : Value) (gs : List Gt) (B : Nat) (w : World) (hB : B ≤ w.heap.size) (hv : GatesAt w B gv gs) (hw : ∀ g ∈ gs, g.wires.length ≤ 1000000) :
    Calls Tryz.prog 46 #[.agg #[.int .i64 W, .int .i64 Bt, gv]] w fun e w' => e = .returned (.int .i64 (chkC ⟨W, Bt, gs⟩)) ∧ Below w.heap.size w w' := by
  obtain ⟨A, c, rfl, hc1, hc2, hc3⟩ := hv.form
  have hx := Blk.new w 25 #[.int .i64 W, .int .i64 Bt, .slice A gs.length c]
  have hb := below1 w (.cells #[.int .i64 W, .int .i64 Bt, .slice A gs.length c] 25)
  have hv := hv.below (hb.mono hB)
  have hz0 : B ≤ (w.alloc (.cells #[.int .i64 W, .int .i64 Bt, .slice A gs.length c] 25)).heap.size := by simp; omega
  have Hc : Hid (chkC ⟨W, Bt, gs⟩ = if W < 1 ∨ 12 < W ∨ Bt < 0 ∨ 8 < Bt then 3 else if 120 < gs.length then 2 else chkGs W Bt gs) := rfl
  generalize chkC ⟨W, Bt, gs⟩ = cg at *
  clear hc3
  unfold maxLen at hc2
  go_enter Tryz.func46, Tryz.ntmps46
  go_upto_region 1 with fail
  generalize w.alloc (.cells #[.int .i64 W, .int .i64 Bt, .slice A gs.length c] 25) = wa at *
  have x0 := hx.cell 0
  have x1 := hx.cell 1
  have x2 := hx.cell 2
  have xf := hx.frozen
  simp at x0 x1 x2
  by_cases h1 : 1 ≤ W ∧ W ≤ 12 ∧ 0 ≤ Bt ∧ Bt ≤ 8
  · obtain ⟨a1, a2, a3, a4⟩ := h1
    by_cases h2 : 120 < gs.length
    · have Hr : Hid (cg = 2) := by show _ = _; rw [Hc.out, if_neg (by omega), if_pos h2]
      go_wp2_with fail
      go_ret
      exact ⟨by rw [Hr.out]; rfl, hb⟩
    · have Hr : Hid (cg = chkGs W Bt gs) := by show _ = _; rw [Hc.out, if_neg (by omega), if_neg h2]
      go_wp2_with fail
      go_loopw [37, 5, 6] (fun i _ _ wr => ∃ n : Nat, n ≤ gs.length ∧ i = .int .i64 n ∧ cg = chkGs W Bt (gs.drop n) ∧ Below w.heap.size w wr ∧ GatesAt wr B (.slice A gs.length c) gs) (fun i _ _ _ => gs.length - (intOf i).toNat)
      case atStart => exact ⟨0, by simp, rfl, Hr.out, hb, hv⟩
      case round =>
        clear hb hv x0 x1 x2 xf hx hz0 Hc
        obtain ⟨n, hn, rfl, hd, hb, hv⟩ := hrel
        have Hd := Lib.hid hd
        clear hd
        by_cases hlt : n < gs.length
        · obtain ⟨A', c', e1, _, _, h3⟩ := hv.form
          injection e1 with e1 _ e3
          subst e1 e3
          obtain ⟨b, o, rfl, hbB, hcell⟩ := h3 (by intro h0; subst h0; simp at hlt)
          obtain ⟨g, Hg, hgm⟩ : ∃ g, Hid (gs.drop n = g :: gs.drop (n + 1)) ∧ gs[n]? = some g := ⟨gs[n], by show gs.drop n = _; rw [List.drop_eq_getElem_cons hlt], List.getElem?_eq_getElem hlt⟩
          obtain ⟨wv, hwv, c0, c1, c2, c3⟩ := hcell n g hgm
          have hgl := hw g (List.mem_of_getElem? hgm)
          obtain ⟨A2, d2, e2, _⟩ := hwv.form
          subst e2
          have hz1 := hb.size
          have hbx := (Below.refl B wr).alloc (by omega) (.cells #[.int .i64 g.kind, .slice A2 g.wires.length d2, .int .i64 g.bit, .int .i64 g.ifn] 61)
          have HG := Lib.hid (gate_calls W Bt (.slice (some ⟨b, o, none⟩) gs.length c) .nilFunc (.slice A2 g.wires.length d2) g B (wr.alloc (.cells #[.int .i64 g.kind, .slice A2 g.wires.length d2, .int .i64 g.bit, .int .i64 g.ifn] 61)) (by simp; omega) (hwv.below hbx) hgl)
          have hv2 := hv.below hbx
          have hb2 := hb.alloc hb.size (.cells #[.int .i64 g.kind, .slice A2 g.wires.length d2, .int .i64 g.bit, .int .i64 g.ifn] 61)
          obtain ⟨k, hk⟩ : ∃ k, chkG W Bt g = k := ⟨_, rfl⟩
          rw [hk] at HG
          have Hk := Lib.hid hk
          clear hk hcell h3 hwv hbx hgm hgl
          go_wp2_with fail
          refine HG.out.mono ?_
          rintro e w2 ⟨rfl, hb3⟩
          have hb4 := bt hb3 hb2 hb2.size
          have hv4 := hv2.below (hb3.mono (by simp; omega))
          clear hb2 hv2 hb3 HG
          by_cases hk0 : k = 0
          · have Hr2 : Hid (cg = chkGs W Bt (gs.drop (n + 1))) := by show _ = _; rw [Hd.out, Hg.out, chkGs_cons, if_pos (Hk.out.trans hk0)]
            subst hk0
            go_wp2_with fail
            go_roundw
            case rel => exact ⟨n + 1, by omega, by go_num, Hr2.out, hb4, hv4⟩
            case measure => simp [intOf]; omega
          · have Hr2 : Hid (cg = k) := by show _ = _; rw [Hd.out, Hg.out, chkGs_cons, if_neg (by rw [Hk.out]; exact hk0), Hk.out]
            have hk0b : (k != 0) = true := by simpa using hk0
            clear hk0
            go_wp2_with fail
            go_ret
            exact ⟨by rw [Hr2.out]; rfl, hb4⟩
        · have Hr2 : Hid (cg = 0) := by show _ = _; rw [Hd.out, List.drop_of_length_le (by omega)]; rfl
          go_wp2_with fail
          go_ret
          exact ⟨by rw [Hr2.out]; rfl, hb⟩
  · have Hr : Hid (cg = 3) := by show _ = _; rw [Hc.out, if_pos (by omega)]
    go_wp2_with fail
    all_goals go_ret
    all_goals exact ⟨by rw [Hr.out]; rfl, hb⟩
end Go.Proofs.YtonnegkpjmhomaaGreatDoor
end
