import Derived.Maps.OwnIn
import Derived.Test.YtlglmooknlmomaaDoorC2
import Derived.Test.YtlglmooknlmomaaDoorC8
set_option linter.all false
section
namespace Go.Proofs.YtlglmooknlmomaaDoor
open Go.RowKit Go.Shelf
attribute [local go_sem] Oper.semAt_some
def numR (v : Value) : Option (DataW Unit × List MemPlace) :=
  match v with
  | .agg xs => (match xs.toList with
    | [.int .i64 a, .int .i64 b, .int .i64 c, .int .i64 d, .int .i64 k] => some (.agg [.lit (.int .i64 a), .lit (.int .i64 b), .lit (.int .i64 c), .lit (.int .i64 d), .lit (.int .i64 k)], [])
    | _ => none)
  | _ => none
def numD (p : Pt) : DataW Unit := .agg [.lit (.int .i64 p.a), .lit (.int .i64 p.b), .lit (.int .i64 p.c), .lit (.int .i64 p.d), .lit (.int .i64 0)]
theorem numR_inv {v : Value} {p : Pt} {ps : List MemPlace} (h : numR v = some (numD p, ps)) : v = .agg #[.int .i64 p.a, .int .i64 p.b, .int .i64 p.c, .int .i64 p.d, .int .i64 0] := by
  unfold numR at h
  split at h
  · split at h
    · rename_i xs _ a b c d k hx
      simp only [numD, Option.some.injEq, Prod.mk.injEq, DataW.agg.injEq, List.cons.injEq, DataW.lit.injEq, Lit.int.injEq, true_and, and_true] at h
      obtain ⟨⟨rfl, rfl, rfl, rfl, rfl⟩, _⟩ := h
      rw [← Array.toArray_toList (xs := xs), hx]
    · cases h
  · cases h
def omD (pre : List (Fin 8)) : DataW Unit := pre.foldl (fun D i => D.put (.int .i64 (i.val : Int)) (numD (omP i.val))) (.map [])
theorem omD_snoc (pre : List (Fin 8)) (x : Fin 8) : omD (pre ++ [x]) = (omD pre).put (.int .i64 (x.val : Int)) (numD (omP x.val)) := by simp [omD]
theorem omD_at (m : Fin 8) : (omD (upto8 8)).atKey (.int .i64 (m.val : Int)) (numD Pt.zero) = numD (omP m.val) := by
  match m with
  | ⟨0, _⟩ => rfl
  | ⟨1, _⟩ => rfl
  | ⟨2, _⟩ => rfl
  | ⟨3, _⟩ => rfl
  | ⟨4, _⟩ => rfl
  | ⟨5, _⟩ => rfl
  | ⟨6, _⟩ => rfl
  | ⟨7, _⟩ => rfl
set_option maxRecDepth 100000 in
set_option maxHeartbeats 4000000 in
theorem Omega_calls (n : Int) (w : World) :
    Calls Tryd.prog 36 #[.int .i64 n] w fun e w' => e = .returned (.agg #[.int .i64 (omP (n % 8).toNat).a, .int .i64 (omP (n % 8).toNat).b, .int .i64 (omP (n % 8).toNat).c, .int .i64 (omP (n % 8).toNat).d, .int .i64 0]) ∧ Below w.heap.size w w' := by
  refine (callsIn_wide (n := 3)).1 ?_
  refine callsIn_of_wp_marks Tryd.func36 rfl trivial ?_
  simp only [Tryd.ntmps36, List.size_toArray, List.length_cons, List.length_nil, Nat.reduceAdd, Nat.reduceSub, Array.replicate_succ, Array.replicate_zero, List.push_toArray, List.append_toArray, List.nil_append, List.cons_append]
  have hmm := @run_makeMap Tryd.prog
  gi_wp2
  refine ⟨trivial, callsIn_wide.2 ((powers_calls _).mono ?_)⟩
  rintro e w2 ⟨rfl, rfl⟩
  gi_wp2
  have hR0 : Blk (((w.alloc (.cells #[.int .i64 0, .int .i64 0, .int .i64 0, .int .i64 0, .int .i64 0] 23)).alloc (.map #[] 0)).alloc (.cells #[.map (some (w.heap.size + 1))] 90)) w.heap.size 23 #[.int .i64 0, .int .i64 0, .int .i64 0, .int .i64 0, .int .i64 0] := ((Blk.new _ _ _).alloc _).alloc _
  have hM0 : Blk (((w.alloc (.cells #[.int .i64 0, .int .i64 0, .int .i64 0, .int .i64 0, .int .i64 0] 23)).alloc (.map #[] 0)).alloc (.cells #[.map (some (w.heap.size + 1))] 90)) (w.heap.size + 2) 90 #[.map (some (w.heap.size + 1))] := Blk.at_ _ _ _ (by simp)
  have hO0 : World.ownsMap (((w.alloc (.cells #[.int .i64 0, .int .i64 0, .int .i64 0, .int .i64 0, .int .i64 0] 23)).alloc (.map #[] 0)).alloc (.cells #[.map (some (w.heap.size + 1))] 90)) Tryd.prog 3 numR (w.heap.size + 1) 0 (omD []) := by
    have h := (World.ownsMap_made (w.alloc (.cells #[.int .i64 0, .int .i64 0, .int .i64 0, .int .i64 0, .int .i64 0] 23)) Tryd.prog 3 numR).alloc (.cells #[.map (some (w.heap.size + 1))] 90)
    simp only [World.size_alloc] at h
    exact h
  have hbw0 : Below w.heap.size w (((w.alloc (.cells #[.int .i64 0, .int .i64 0, .int .i64 0, .int .i64 0, .int .i64 0] 23)).alloc (.map #[] 0)).alloc (.cells #[.map (some (w.heap.size + 1))] 90)) := below3 _ _ _ _
  have hsz0 : (((w.alloc (.cells #[.int .i64 0, .int .i64 0, .int .i64 0, .int .i64 0, .int .i64 0] 23)).alloc (.map #[] 0)).alloc (.cells #[.map (some (w.heap.size + 1))] 90)).heap.size = w.heap.size + 3 := by simp
  generalize (((w.alloc (.cells #[.int .i64 0, .int .i64 0, .int .i64 0, .int .i64 0, .int .i64 0] 23)).alloc (.map #[] 0)).alloc (.cells #[.map (some (w.heap.size + 1))] 90)) = W0 at *
  have hu90 : Tryd.prog.underlying 90 = some (.map 3 23) := by kernel_rfl
  have hu3 : Tryd.prog.underlying 3 = some (.int .i64) := by kernel_rfl
  have hz23 : ∀ W, (zeroValue 23).run Tryd.prog W = .ok (.agg #[.int .i64 0, .int .i64 0, .int .i64 0, .int .i64 0, .int .i64 0]) W := fun W => by kernel_rfl
  have hwf : ∀ x : Fin 8, (Lit.int .i64 (x.val : Int)).wf = true := by decide
  refine wpIn_rangeFunc_ownH rfl (by omega) (gf := 96) (lb := #[]) rfl trivial (enters_of Tryd.func96 (by kernel_rfl) rfl)
    (powers1_stops 2 (by omega) w.heap.size W0) belowK_t (belowK_b hbw0.size) (Below.refl _ _) (fun _ => rfl)
    (fun pre W => ((W.ownsMap Tryd.prog 3 numR (w.heap.size + 1) pre.length (omD pre) ∧ Blk W (w.heap.size + 2) 90 #[.map (some (w.heap.size + 1))]) ∧ Blk W w.heap.size 23 #[.int .i64 0, .int .i64 0, .int .i64 0, .int .i64 0, .int .i64 0]) ∧ Below w.heap.size w W)
    (fun _ _ _ => False)
    (OwnFrom.and (OwnFrom.and (OwnFrom.and (fun s X Y row hs hg hr => hs.kept hg (fun e => by have := (hr _ e.symm).1; omega)) (Own.from (blk_own _ _ _) _)) (Own.from (blk_own _ _ _) _)) (ownFrom_below (Nat.le_refl _) hbw0.size))
    (fun _ _ _ _ _ hs _ _ => hs)
    ⟨⟨⟨hO0, hM0⟩, hR0⟩, hbw0⟩
    (fun x' a' W => ∃ Bx, w.heap.size + 2 < Bx ∧ Blk W Bx 23 #[.int .i64 (omP x'.val).a, .int .i64 (omP x'.val).b, .int .i64 (omP x'.val).c, .int .i64 (omP x'.val).d, .int .i64 0] ∧ a' = { tmps := #[.int .i64 n, undef, .pointer (some ⟨w.heap.size, 0, none⟩), .pointer (some ⟨w.heap.size + 1 + 1, 0, none⟩), .int .i64 (x'.val : Int), .pointer (some ⟨Bx, 0, none⟩), .map (some (w.heap.size + 1)), .func (.func 96) #[] #[], .int .i64 (x'.val : Int), .agg #[.int .i64 (omP x'.val).a, .int .i64 (omP x'.val).b, .int .i64 (omP x'.val).c, .int .i64 (omP x'.val).d, .int .i64 0], undef, undef, undef, undef, undef, undef, undef, undef, undef], defers := [] })
    (fun x' a' s X Y row hs hg hr => by obtain ⟨Bx, e1, e2, e3⟩ := hs; exact ⟨Bx, e1, Own.from (blk_own _ _ _) _ () X Y row e2 hg hr, e3⟩)
    ?assign ?body ?done ?stop
  case assign =>
    rintro l pre x' W K ⟨⟨⟨hO, hM⟩, hR⟩, hbw⟩ hK
    gi_wp2
    exact hK _ _ ((KeepsOthers.alloc _ _).from _) ((Below.refl _ W).alloc hbw.size _) ⟨⟨⟨hO.alloc _, hM.alloc _⟩, hR.alloc _⟩, hbw.alloc hbw.size _⟩ ⟨W.heap.size, hM.lt, Blk.new _ _ _, rfl⟩
  case body =>
    rintro l pre x' a' W hl ⟨r, hr⟩ ⟨⟨⟨hO, hM⟩, hR⟩, hbw⟩ ⟨Bx, hBx, hX, rfl⟩ hlt
    have m0 := hM.cell 0
    obtain ⟨x0, x1, x2, x3, x4, xf⟩ := hX.cells5
    gi_wp2_with (gi_at_mapUpdate; refine wpListIn_mapUpdate_own _ rfl _ _ _ 90 rfl 3 23 (Maps.int_keyed hu3) hu90 numR _ pre.length _ rfl hO (Nat.lt_of_lt_of_le hlt (by decide)) _ _ _ rfl rfl (Maps.keyOf_int_mk hu3 (hwf x')) (numD (omP x'.val)) [] rfl ?_; intro w1 hown1 hgrow1)
    have hkb : ∀ b t cs, Blk W b t cs → b ≠ w.heap.size + 1 → Blk w1 b t cs := fun b t cs h hne => (hgrow1.block b h.lt (fun e => by cases e; exact hne rfl)).trans h
    refine ⟨KeepsFrom.of_grownBy hgrow1 (fun j e => by cases e; omega), (Below.refl w.heap.size W).grown hgrow1 hbw.size (fun k e => by cases e; omega), ⟨⟨?_, hkb _ _ _ hM (by omega)⟩, hkb _ _ _ hR (by omega)⟩, hbw.grown hgrow1 hbw.size (fun k e => by cases e; omega)⟩
    rw [omD_snoc, List.length_append]
    exact hown1
  case done =>
    rintro D ys W hD rfl ⟨⟨⟨hO, hM⟩, hR⟩, hbw⟩ hK
    have m0 := hM.cell 0
    obtain ⟨r0, r1, r2, r3, r4, rf⟩ := hR.cells5
    obtain ⟨m, hm⟩ : ∃ m : Fin 8, (m.val : Int) = n % 8 := ⟨⟨(n % 8).toNat, by omega⟩, by show (((n % 8).toNat : Nat) : Int) = _; omega⟩
    obtain ⟨v, ps, hrun, hv⟩ := hO.lookup (t := 90) (e := 23) (Maps.int_keyed hu3) hu90 (hz23 W) (zd := numD Pt.zero) (zp := []) rfl (Maps.keyOf_int_mk hu3 (hwf m))
    rw [omD_at] at hv
    obtain rfl := numR_inv hv
    have hb : -7 ≤ n.tmod 8 ∧ n.tmod 8 ≤ 7 := by
      have h1 := Int.tmod_lt_of_pos n (b := 8) (by decide)
      have h2 := Int.lt_tmod_of_pos n (b := 8) (by decide)
      omega
    have hm2 : (n.tmod 8 + 8).tmod 8 = (m.val : Int) := by
      rw [Int.tmod_eq_emod_of_nonneg (by omega), hm]
      have := Int.tmod_eq_emod (a := n) (b := 8)
      split at this <;> omega
    have Hmn : Hid (omP m.val = omP (n % 8).toNat) := by show _ = _; congr 1; omega
    clear hm hv
    gi_wp2
    have hR5 := hR.put5 (a' := .int .i64 (omP m.val).a) (b' := .int .i64 (omP m.val).b) (c' := .int .i64 (omP m.val).c) (d' := .int .i64 (omP m.val).d) (e' := .int .i64 0)
    have hK' := (((((KeepsOthers.setCell W ⟨w.heap.size, 0, none⟩ (.int .i64 (omP m.val).a)).trans (KeepsOthers.setCell _ ⟨w.heap.size, 1, none⟩ (.int .i64 (omP m.val).b))).trans (KeepsOthers.setCell _ ⟨w.heap.size, 2, none⟩ (.int .i64 (omP m.val).c))).trans (KeepsOthers.setCell _ ⟨w.heap.size, 3, none⟩ (.int .i64 (omP m.val).d))).trans (KeepsOthers.setCell _ ⟨w.heap.size, 4, none⟩ (.int .i64 0))).same D _ hK rfl
    refine ⟨by simp, .inl ⟨_, _, rfl, run_takeDeferred hK', ?_⟩⟩
    have q := fun i v (h : #[Value.int .i64 (omP m.val).a, .int .i64 (omP m.val).b, .int .i64 (omP m.val).c, .int .i64 (omP m.val).d, .int .i64 0][i]? = some v) => cell_kept ((hR5.cell i).trans h) (grownBy_putObj' _ D (.deferred none)) (fun r e => by cases e; exact ⟨_, hK', rfl⟩)
    have q0 := q 0 _ rfl
    have q1 := q 1 _ rfl
    have q2 := q 2 _ rfl
    have q3 := q 3 _ rfl
    have q4 := q 4 _ rfl
    clear q
    refine ⟨.agg #[.int .i64 (omP m.val).a, .int .i64 (omP m.val).b, .int .i64 (omP m.val).c, .int .i64 (omP m.val).d, .int .i64 0], ?_, by rw [Hmn.out], ?_⟩
    · simp [results, Tryd.results36, go_sem, q0, q1, q2, q3, q4]
    · exact (below_put5 hbw (Nat.le_refl _) _ _ _ _ _).trans (belowK_b (w := w) (Nat.le_refl _) _ D _ _ (by omega) hK' rfl rfl)
  case stop =>
    rintro D c pre W _ _ h _
    exact h.elim
end Go.Proofs.YtlglmooknlmomaaDoor
end
section
namespace Go.Proofs.YtlglmooknlmomaaDoor
open Nm
namespace Pt
def Re (p : Pt) : Prop := p.c = 0 ∧ p.d = -p.b
theorem re_conj {p : Pt} : p.conj = p ↔ p.Re := by
  constructor
  · intro h
    have h1 := congrArg Pt.b h
    have h2 := congrArg Pt.c h
    simp only [conj] at h1 h2
    exact ⟨by omega, by omega⟩
  · rintro ⟨h1, h2⟩
    apply ext' <;> simp only [conj] <;> omega
theorem re_twice {p : Pt} (h : p.Re) : p.twice.Re := by simp only [Re, twice] at *; omega
theorem re_tw {j : Nat} {p : Pt} : (tw j p).Re ↔ p.Re := by
  rw [← re_conj, ← re_conj, tw_conj]
  exact ⟨fun h => tw_inj h, fun h => by rw [h]⟩
theorem neg_mul2 (a b : Int) : 2 * b * (2 * b) = 4 * (b * b) ∧ 2 * a * a = 2 * (a * a) ∧ 2 * b * b = 2 * (b * b) := by
  refine ⟨by grind, by grind, by grind⟩
theorem neg_twice {p : Pt} (h : p.Re) : negB p.twice.a p.twice.b = negB p.a p.b := by
  obtain ⟨a, b, c, d⟩ := p
  obtain ⟨h1, h2⟩ := h
  dsimp only at h1 h2
  subst h1 h2
  have e0 : (twice ⟨a, b, 0, -b⟩).a = 2 * b ∧ (twice ⟨a, b, 0, -b⟩).b = a := ⟨by simp only [twice]; omega, by simp only [twice]; omega⟩
  rw [e0.1, e0.2]
  show negB (2 * b) a = negB a b
  obtain ⟨e1, e2, e3⟩ := neg_mul2 a b
  unfold negB
  rw [decide_eq_decide, e1, e2, e3]
  generalize a * a = A
  generalize b * b = B
  omega
theorem neg_tw {j : Nat} {p : Pt} (h : p.Re) : negB (tw j p).a (tw j p).b = negB p.a p.b := by
  induction j generalizing p with
  | zero => rfl
  | succ j ih => show negB (tw j p.twice).a (tw j p.twice).b = _; rw [ih (re_twice h), neg_twice h]
theorem nrm_neg (p : Pt) : negB p.nrm.a p.nrm.b = false := by
  have h1 := nrm_a p
  have h2 := sq_nonneg p
  have h3 := whole_eq p
  have h4 : p.whole = (p.a * p.a - p.c * p.c + 2 * (p.b * p.d)) * (p.a * p.a - p.c * p.c + 2 * (p.b * p.d)) + (2 * (p.a * p.c) - p.b * p.b + p.d * p.d) * (2 * (p.a * p.c) - p.b * p.b + p.d * p.d) := by
    simp only [whole, nrm, mul, conj, dot]; grind
  have h5 := msn (p.a * p.a - p.c * p.c + 2 * (p.b * p.d))
  have h6 := msn (2 * (p.a * p.c) - p.b * p.b + p.d * p.d)
  have h7 : 2 * (p.nrm.b * p.nrm.b) ≤ p.sq * p.sq := by omega
  rw [← h1] at h7 h2
  generalize p.nrm.a = u at *
  generalize p.nrm.b = v at *
  unfold negB
  rw [decide_eq_false_iff_not]
  have e : 2 * v * v = 2 * (v * v) := by grind
  rw [e]
  rintro (⟨h, _⟩ | ⟨h, h'⟩ | ⟨h, h', h''⟩ | ⟨h, _⟩)
  · omega
  · obtain rfl : u = 0 := by omega
    have := sqrt2i v 0
    have h8 : 0 < v * v := Int.mul_pos_of_neg_of_neg h' h'
    omega
  · have h9 : u * u = 2 * (v * v) := by omega
    have := sqrt2i u v h9
    omega
  · omega
theorem mul_conj_re (p : Pt) : (p.mul p.conj).Re := by rw [← re_conj, conj_mul, conj_conj, mul_comm]
end Pt
theorem realB_re {p : Pt} : realB p = true ↔ p.Re := by
  unfold realB Pt.Re
  simp only [Bool.and_eq_true, beq_iff_eq]
  omega
theorem sv_re {N : Nat} {x : Nm} : (sv N x).Re ↔ x.p.Re := Pt.re_tw
theorem zero_sv (N : Nat) : sv N Nm.zero = Pt.zero := Pt.tw_zero _
theorem cn_zero : Cn Nm.zero := by show Pt.red 0 Pt.zero = _; rfl
theorem less_in {B C D : Int} {K L M : Nat} {x z : Nm} (hx : In B K x) (hz : In C L z) (hM : max K L ≤ M) (hD : (B + C) * 2 ^ M ≤ D) (hD1 : D ≤ 1073741824) (hM1 : M ≤ 60) (rx : x.p.Re) (rz : z.p.Re) :
    ∃ b, sLess x z = (b, 0) ∧ ∀ N, M ≤ N → b = negB ((sv N x).sub (sv N z)).a ((sv N x).sub (sv N z)).b := by
  obtain ⟨y, e, i, c, s⟩ := sub_in hx hz hM hD hD1 hM1
  have hc : chks [x, z] = 0 := by
    have h := e
    unfold sSub at h
    by_cases h0 : chks [x, z] = 0
    · exact h0
    · rw [if_neg h0] at h; exact absurd (congrArg Prod.snd h) h0
  refine ⟨negB y.p.a y.p.b, ?_, fun N hN => ?_⟩
  · unfold sLess
    rw [if_pos hc, realB_re.2 rx, realB_re.2 rz, e]
    rfl
  · rw [← s N hN]
    have hr : y.p.Re := by
      rw [← sv_re (N := N), s N hN]
      have h1 := (sv_re (N := N)).2 rx
      have h2 := (sv_re (N := N)).2 rz
      simp only [Pt.Re, Pt.sub] at *
      omega
    exact (Pt.neg_tw hr).symm
theorem om_norm : ∀ i : Fin 8, (omP i.val).mul (omP i.val).conj = Pt.one := by decide
theorem om_in : ∀ i : Fin 8, wiB (omP i.val).a (omP i.val).b (omP i.val).c (omP i.val).d 1 = true := by decide
theorem omega_in (i : Fin 8) : In 1 0 ⟨omP i.val, 0⟩ := ⟨(wiB_iff _ _).1 (om_in i), Int.le_refl _, Int.le_refl _⟩
theorem one_in : In 1 0 ⟨Pt.one, 0⟩ := ⟨by simp [Pt.le, Pt.one], Int.le_refl _, Int.le_refl _⟩
theorem norm_omega (i : Fin 8) : sNorm ⟨omP i.val, 0⟩ = (⟨Pt.one, 0⟩, 0) := by
  obtain ⟨y, e, iy, c, s⟩ := norm_in (D := 4) (omega_in i) (by decide) (by decide) (by decide) (by decide)
  rw [e]
  have : y = ⟨Pt.one, 0⟩ := in_eq iy one_in c (by show Pt.red 0 Pt.one = _; rfl) (N := 0 + 0) (by decide) (by decide) (by
    rw [s 0 (by decide)]
    show (omP i.val).mul (omP i.val).conj = _
    rw [om_norm]; rfl)
  rw [this]
theorem normed_plain {x y : Nm} (hx : In 60 8 x) (hy : In 60 8 y) (i : Fin 8) :
    ∃ a b c d l : Nm, sNorm x = (a, 0) ∧ sNorm y = (b, 0) ∧ sMul x y = (c, 0) ∧ sNorm c = (d, 0) ∧ sMul a b = (d, 0) ∧ sReal a = (true, 0) ∧ sLess a Nm.zero = (false, 0) ∧ sNorm ⟨omP i.val, 0⟩ = (⟨⟨1, 0, 0, 0⟩, 0⟩, 0) ∧ sLeast x = (l, 0) ∧ (a = Nm.zero ↔ l = Nm.zero) := by
  obtain ⟨a, ea, ia, ca, sa⟩ := norm_in (D := 14400) hx (by decide) (by decide) (by decide) (by decide)
  obtain ⟨b, eb, ib, cb, sb⟩ := norm_in (D := 14400) hy (by decide) (by decide) (by decide) (by decide)
  obtain ⟨c, ec, ic, cc, sc⟩ := mul_in (D := 14400) hx hy (by decide) (by decide) (by decide) (by decide) (by decide)
  obtain ⟨d, ed, id, cd, sd⟩ := norm_in (D := 829440000) ic (by decide) (by decide) (by decide) (by decide)
  obtain ⟨f, ef, if_, cf, sf⟩ := mul_in (D := 829440000) ia ib (by decide) (by decide) (by decide) (by decide) (by decide)
  obtain rfl : d = f := in_eq id if_ cd cf (N := 8 + 8 + (8 + 8)) (by decide) (by decide) (by
    rw [sd (8 + 8) (by decide), sf (8 + 8) (8 + 8) (by decide) (by decide), sc 8 8 (by decide) (by decide), sa 8 (by decide), sb 8 (by decide), Pt.conj_mul]
    generalize sv 8 x = p
    generalize sv 8 y = q
    rw [Pt.mul_assoc, Pt.mul_assoc, ← Pt.mul_assoc q, Pt.mul_comm q p.conj, Pt.mul_assoc])
  have ra : a.p.Re := by rw [← sv_re (N := 8 + 8), sa 8 (by decide)]; exact Pt.mul_conj_re _
  have er : sReal a = (true, 0) := by
    unfold sReal
    rw [if_pos (ia.chk (by decide) (by decide)), realB_re.2 ra]
  obtain ⟨g, eg, sg⟩ := less_in (D := 943718400) (M := 16) ia in_zero (by decide) (by decide) (by decide) (by decide) ra (by exact ⟨rfl, rfl⟩)
  have hg : g = false := by
    rw [sg (8 + 8) (by decide), sa 8 (by decide), zero_sv]
    have e := Pt.nrm_neg (sv 8 x)
    have z : ∀ q : Pt, q.sub Pt.zero = q := fun q => by apply Pt.ext' <;> simp [Pt.sub, Pt.zero]
    rw [z]
    exact e
  rw [hg] at eg
  obtain ⟨l, el, il, cl, sl⟩ := least_in hx (by decide) (by decide)
  refine ⟨a, b, c, d, l, ea, eb, ec, ed, ef, er, eg, norm_omega i, el, ?_, ?_⟩
  · intro h
    refine in_eq il in_zero cl cn_zero (N := 8) (by decide) (by decide) ?_
    rw [zero_sv, sl 8 (by decide)]
    have e := sa 8 (by decide)
    rw [h, zero_sv] at e
    have h2 := Pt.nrm_a (sv 8 x)
    have h3 : (sv 8 x).nrm = Pt.zero := e.symm
    rw [h3] at h2
    exact Pt.sq_zero h2.symm
  · intro h
    refine in_eq ia in_zero ca cn_zero (N := 8 + 8) (by decide) (by decide) ?_
    have e := sl 8 (by decide)
    rw [h, zero_sv] at e
    rw [sa 8 (by decide), zero_sv, ← e, Pt.zero_mul]
theorem nz_bool {x : Nm} (h : ¬ x = Nm.zero) : (x.p.a == 0 && (x.p.b == 0 && (x.p.c == 0 && (x.p.d == 0 && x.k == 0)))) = false := by
  rw [Bool.eq_false_iff]
  intro h2
  simp only [Bool.and_eq_true, beq_iff_eq] at h2
  obtain ⟨h3, h4, h5, h6, h7⟩ := h2
  apply h
  obtain ⟨⟨a, b, c, d⟩, k⟩ := x
  dsimp only at h3 h4 h5 h6 h7
  subst h3 h4 h5 h6 h7
  rfl
theorem z_iff (x : Nm) : (x.p.a == 0 && (x.p.b == 0 && (x.p.c == 0 && (x.p.d == 0 && x.k == 0)))) = true ↔ x = Nm.zero := by
  constructor
  · intro h2
    by_cases h : x = Nm.zero
    · exact h
    · rw [nz_bool h] at h2; cases h2
  · rintro rfl; rfl
theorem z_same {x y : Nm} (h : x = Nm.zero ↔ y = Nm.zero) : ∃ v : Bool, (x.p.a == 0 && (x.p.b == 0 && (x.p.c == 0 && (x.p.d == 0 && x.k == 0)))) = v ∧ (y.p.a == 0 && (y.p.b == 0 && (y.p.c == 0 && (y.p.d == 0 && y.k == 0)))) = v := by
  refine ⟨_, rfl, ?_⟩
  rw [Bool.eq_iff_iff, z_iff, z_iff, h]
end Go.Proofs.YtlglmooknlmomaaDoor
end
