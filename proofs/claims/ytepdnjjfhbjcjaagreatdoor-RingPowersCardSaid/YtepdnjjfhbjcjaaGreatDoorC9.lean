import Derived.Maps.OwnIn
import Derived.Test.YtepdnjjfhbjcjaaGreatDoorC8
set_option linter.all false
section
namespace Go.Proofs.YtepdnjjfhbjcjaaGreatDoor
open Go.RowKit Go.Shelf
attribute [local go_sem] Oper.semAt_some
def numR (v : Value) : Option (DataW Unit × List MemPlace) :=
  match v with
  | .agg xs => (match xs.toList with
    | [.int .i64 a, .int .i64 b, .int .i64 c, .int .i64 d, .int .i64 k] => some (.agg [.lit (.int .i64 a), .lit (.int .i64 b), .lit (.int .i64 c), .lit (.int .i64 d), .lit (.int .i64 k)], [])
    | _ => none)
  | _ => none
def numD (p : Pt) : DataW Unit := .agg [.lit (.int .i64 p.a), .lit (.int .i64 p.b), .lit (.int .i64 p.c), .lit (.int .i64 p.d), .lit (.int .i64 0)]
theorem numR_inv {v : Value} {p : Pt} {ps : List MemPlace} (h : numR v = some (numD p, ps)) : v = .agg #[.int .i64 p.a, .int .i64 p.b, .int .i64 p.c, .int .i64 p.d, .int .i64 0] := by
  unfold numR at h
  split at h
  · split at h
    · rename_i xs _ a b c d k hx
      simp only [numD, Option.some.injEq, Prod.mk.injEq, DataW.agg.injEq, List.cons.injEq, DataW.lit.injEq, Lit.int.injEq, true_and, and_true] at h
      obtain ⟨⟨rfl, rfl, rfl, rfl, rfl⟩, _⟩ := h
      rw [← Array.toArray_toList (xs := xs), hx]
    · cases h
  · cases h
def omD (pre : List (Fin 8)) : DataW Unit := pre.foldl (fun D i => D.put (.int .i64 (i.val : Int)) (numD (omP i.val))) (.map [])
theorem omD_snoc (pre : List (Fin 8)) (x : Fin 8) : omD (pre ++ [x]) = (omD pre).put (.int .i64 (x.val : Int)) (numD (omP x.val)) := by simp [omD]
theorem omD_at (m : Fin 8) : (omD (upto8 8)).atKey (.int .i64 (m.val : Int)) (numD Pt.zero) = numD (omP m.val) := by
  match m with
  | ⟨0, _⟩ => rfl
  | ⟨1, _⟩ => rfl
  | ⟨2, _⟩ => rfl
  | ⟨3, _⟩ => rfl
  | ⟨4, _⟩ => rfl
  | ⟨5, _⟩ => rfl
  | ⟨6, _⟩ => rfl
  | ⟨7, _⟩ => rfl
set_option maxRecDepth 100000 in
set_option maxHeartbeats 4000000 in
theorem Omega_calls (n : Int) (w : World) :
    Calls Tryz.prog 12 #[.int .i64 n] w fun e w' => e = .returned (.agg #[.int .i64 (omP (n % 8).toNat).a, .int .i64 (omP (n % 8).toNat).b, .int .i64 (omP (n % 8).toNat).c, .int .i64 (omP (n % 8).toNat).d, .int .i64 0]) ∧ Below w.heap.size w w' := by
  refine (callsIn_wide (n := 3)).1 ?_
  refine callsIn_of_wp_marks Tryz.func12 rfl trivial ?_
  simp only [Tryz.ntmps12, List.size_toArray, List.length_cons, List.length_nil, Nat.reduceAdd, Nat.reduceSub, Array.replicate_succ, Array.replicate_zero, List.push_toArray, List.append_toArray, List.nil_append, List.cons_append]
  have hmm := @run_makeMap Tryz.prog
  gi_wp2
  refine ⟨trivial, callsIn_wide.2 ((powers_calls _).mono ?_)⟩
  rintro e w2 ⟨rfl, rfl⟩
  gi_wp2
  have hR0 : Blk (((w.alloc (.cells #[.int .i64 0, .int .i64 0, .int .i64 0, .int .i64 0, .int .i64 0] 23)).alloc (.map #[] 0)).alloc (.cells #[.map (some (w.heap.size + 1))] 57)) w.heap.size 23 #[.int .i64 0, .int .i64 0, .int .i64 0, .int .i64 0, .int .i64 0] := ((Blk.new _ _ _).alloc _).alloc _
  have hM0 : Blk (((w.alloc (.cells #[.int .i64 0, .int .i64 0, .int .i64 0, .int .i64 0, .int .i64 0] 23)).alloc (.map #[] 0)).alloc (.cells #[.map (some (w.heap.size + 1))] 57)) (w.heap.size + 2) 57 #[.map (some (w.heap.size + 1))] := Blk.at_ _ _ _ (by simp)
  have hO0 : World.ownsMap (((w.alloc (.cells #[.int .i64 0, .int .i64 0, .int .i64 0, .int .i64 0, .int .i64 0] 23)).alloc (.map #[] 0)).alloc (.cells #[.map (some (w.heap.size + 1))] 57)) Tryz.prog 3 numR (w.heap.size + 1) 0 (omD []) := by
    have h := (World.ownsMap_made (w.alloc (.cells #[.int .i64 0, .int .i64 0, .int .i64 0, .int .i64 0, .int .i64 0] 23)) Tryz.prog 3 numR).alloc (.cells #[.map (some (w.heap.size + 1))] 57)
    simp only [World.size_alloc] at h
    exact h
  have hbw0 : Below w.heap.size w (((w.alloc (.cells #[.int .i64 0, .int .i64 0, .int .i64 0, .int .i64 0, .int .i64 0] 23)).alloc (.map #[] 0)).alloc (.cells #[.map (some (w.heap.size + 1))] 57)) := below3 _ _ _ _
  have hsz0 : (((w.alloc (.cells #[.int .i64 0, .int .i64 0, .int .i64 0, .int .i64 0, .int .i64 0] 23)).alloc (.map #[] 0)).alloc (.cells #[.map (some (w.heap.size + 1))] 57)).heap.size = w.heap.size + 3 := by simp
  generalize (((w.alloc (.cells #[.int .i64 0, .int .i64 0, .int .i64 0, .int .i64 0, .int .i64 0] 23)).alloc (.map #[] 0)).alloc (.cells #[.map (some (w.heap.size + 1))] 57)) = W0 at *
  have hu90 : Tryz.prog.underlying 57 = some (.map 3 23) := by kernel_rfl
  have hu3 : Tryz.prog.underlying 3 = some (.int .i64) := by kernel_rfl
  have hz23 : ∀ W, (zeroValue 23).run Tryz.prog W = .ok (.agg #[.int .i64 0, .int .i64 0, .int .i64 0, .int .i64 0, .int .i64 0]) W := fun W => by kernel_rfl
  have hwf : ∀ x : Fin 8, (Lit.int .i64 (x.val : Int)).wf = true := by decide
  refine wpIn_rangeFunc_ownH rfl (by omega) (gf := 72) (lb := #[]) rfl trivial (enters_of Tryz.func72 (by kernel_rfl) rfl)
    (powers1_stops 2 (by omega) w.heap.size W0) belowK_t (belowK_b hbw0.size) (Below.refl _ _) (fun _ => rfl)
    (fun pre W => ((W.ownsMap Tryz.prog 3 numR (w.heap.size + 1) pre.length (omD pre) ∧ Blk W (w.heap.size + 2) 57 #[.map (some (w.heap.size + 1))]) ∧ Blk W w.heap.size 23 #[.int .i64 0, .int .i64 0, .int .i64 0, .int .i64 0, .int .i64 0]) ∧ Below w.heap.size w W)
    (fun _ _ _ => False)
    (OwnFrom.and (OwnFrom.and (OwnFrom.and (fun s X Y row hs hg hr => hs.kept hg (fun e => by have := (hr _ e.symm).1; omega)) (Own.from (blk_own _ _ _) _)) (Own.from (blk_own _ _ _) _)) (ownFrom_below (Nat.le_refl _) hbw0.size))
    (fun _ _ _ _ _ hs _ _ => hs)
    ⟨⟨⟨hO0, hM0⟩, hR0⟩, hbw0⟩
    (fun x' a' W => ∃ Bx, w.heap.size + 2 < Bx ∧ Blk W Bx 23 #[.int .i64 (omP x'.val).a, .int .i64 (omP x'.val).b, .int .i64 (omP x'.val).c, .int .i64 (omP x'.val).d, .int .i64 0] ∧ a' = { tmps := #[.int .i64 n, undef, .pointer (some ⟨w.heap.size, 0, none⟩), .pointer (some ⟨w.heap.size + 1 + 1, 0, none⟩), .int .i64 (x'.val : Int), .pointer (some ⟨Bx, 0, none⟩), .map (some (w.heap.size + 1)), .func (.func 72) #[] #[], .int .i64 (x'.val : Int), .agg #[.int .i64 (omP x'.val).a, .int .i64 (omP x'.val).b, .int .i64 (omP x'.val).c, .int .i64 (omP x'.val).d, .int .i64 0], undef, undef, undef, undef, undef, undef, undef, undef, undef], defers := [] })
    (fun x' a' s X Y row hs hg hr => by obtain ⟨Bx, e1, e2, e3⟩ := hs; exact ⟨Bx, e1, Own.from (blk_own _ _ _) _ () X Y row e2 hg hr, e3⟩)
    ?assign ?body ?done ?stop
  case assign =>
    rintro l pre x' W K ⟨⟨⟨hO, hM⟩, hR⟩, hbw⟩ hK
    gi_wp2
    exact hK _ _ ((KeepsOthers.alloc _ _).from _) ((Below.refl _ W).alloc hbw.size _) ⟨⟨⟨hO.alloc _, hM.alloc _⟩, hR.alloc _⟩, hbw.alloc hbw.size _⟩ ⟨W.heap.size, hM.lt, Blk.new _ _ _, rfl⟩
  case body =>
    rintro l pre x' a' W hl ⟨r, hr⟩ ⟨⟨⟨hO, hM⟩, hR⟩, hbw⟩ ⟨Bx, hBx, hX, rfl⟩ hlt
    have m0 := hM.cell 0
    obtain ⟨x0, x1, x2, x3, x4, xf⟩ := hX.cells5
    gi_wp2_with (gi_at_mapUpdate; refine wpListIn_mapUpdate_own _ rfl _ _ _ 57 rfl 3 23 (Maps.int_keyed hu3) hu90 numR _ pre.length _ rfl hO (Nat.lt_of_lt_of_le hlt (by decide)) _ _ _ rfl rfl (Maps.keyOf_int_mk hu3 (hwf x')) (numD (omP x'.val)) [] rfl ?_; intro w1 hown1 hgrow1)
    have hkb : ∀ b t cs, Blk W b t cs → b ≠ w.heap.size + 1 → Blk w1 b t cs := fun b t cs h hne => (hgrow1.block b h.lt (fun e => by cases e; exact hne rfl)).trans h
    refine ⟨KeepsFrom.of_grownBy hgrow1 (fun j e => by cases e; omega), (Below.refl w.heap.size W).grown hgrow1 hbw.size (fun k e => by cases e; omega), ⟨⟨?_, hkb _ _ _ hM (by omega)⟩, hkb _ _ _ hR (by omega)⟩, hbw.grown hgrow1 hbw.size (fun k e => by cases e; omega)⟩
    rw [omD_snoc, List.length_append]
    exact hown1
  case done =>
    rintro D ys W hD rfl ⟨⟨⟨hO, hM⟩, hR⟩, hbw⟩ hK
    have m0 := hM.cell 0
    obtain ⟨r0, r1, r2, r3, r4, rf⟩ := hR.cells5
    obtain ⟨m, hm⟩ : ∃ m : Fin 8, (m.val : Int) = n % 8 := ⟨⟨(n % 8).toNat, by omega⟩, by show (((n % 8).toNat : Nat) : Int) = _; omega⟩
    obtain ⟨v, ps, hrun, hv⟩ := hO.lookup (t := 57) (e := 23) (Maps.int_keyed hu3) hu90 (hz23 W) (zd := numD Pt.zero) (zp := []) rfl (Maps.keyOf_int_mk hu3 (hwf m))
    rw [omD_at] at hv
    obtain rfl := numR_inv hv
    have hb : -7 ≤ n.tmod 8 ∧ n.tmod 8 ≤ 7 := by
      have h1 := Int.tmod_lt_of_pos n (b := 8) (by decide)
      have h2 := Int.lt_tmod_of_pos n (b := 8) (by decide)
      omega
    have hm2 : (n.tmod 8 + 8).tmod 8 = (m.val : Int) := by
      rw [Int.tmod_eq_emod_of_nonneg (by omega), hm]
      have := Int.tmod_eq_emod (a := n) (b := 8)
      split at this <;> omega
    have Hmn : Hid (omP m.val = omP (n % 8).toNat) := by show _ = _; congr 1; omega
    clear hm hv
    gi_wp2
    have hR5 := hR.put5 (a' := .int .i64 (omP m.val).a) (b' := .int .i64 (omP m.val).b) (c' := .int .i64 (omP m.val).c) (d' := .int .i64 (omP m.val).d) (e' := .int .i64 0)
    have hK' := (((((KeepsOthers.setCell W ⟨w.heap.size, 0, none⟩ (.int .i64 (omP m.val).a)).trans (KeepsOthers.setCell _ ⟨w.heap.size, 1, none⟩ (.int .i64 (omP m.val).b))).trans (KeepsOthers.setCell _ ⟨w.heap.size, 2, none⟩ (.int .i64 (omP m.val).c))).trans (KeepsOthers.setCell _ ⟨w.heap.size, 3, none⟩ (.int .i64 (omP m.val).d))).trans (KeepsOthers.setCell _ ⟨w.heap.size, 4, none⟩ (.int .i64 0))).same D _ hK rfl
    refine ⟨by simp, .inl ⟨_, _, rfl, run_takeDeferred hK', ?_⟩⟩
    have q := fun i v (h : #[Value.int .i64 (omP m.val).a, .int .i64 (omP m.val).b, .int .i64 (omP m.val).c, .int .i64 (omP m.val).d, .int .i64 0][i]? = some v) => cell_kept ((hR5.cell i).trans h) (grownBy_putObj' _ D (.deferred none)) (fun r e => by cases e; exact ⟨_, hK', rfl⟩)
    have q0 := q 0 _ rfl
    have q1 := q 1 _ rfl
    have q2 := q 2 _ rfl
    have q3 := q 3 _ rfl
    have q4 := q 4 _ rfl
    clear q
    refine ⟨.agg #[.int .i64 (omP m.val).a, .int .i64 (omP m.val).b, .int .i64 (omP m.val).c, .int .i64 (omP m.val).d, .int .i64 0], ?_, by rw [Hmn.out], ?_⟩
    · simp [results, Tryz.results12, go_sem, q0, q1, q2, q3, q4]
    · exact (below_put5 hbw (Nat.le_refl _) _ _ _ _ _).trans (belowK_b (w := w) (Nat.le_refl _) _ D _ _ (by omega) hK' rfl rfl)
  case stop =>
    rintro D c pre W _ _ h _
    exact h.elim
end Go.Proofs.YtepdnjjfhbjcjaaGreatDoor
end
