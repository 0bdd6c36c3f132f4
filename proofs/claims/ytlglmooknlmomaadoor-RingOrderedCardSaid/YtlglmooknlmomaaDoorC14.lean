import Derived.Test.YtlglmooknlmomaaDoorC8
import Derived.Test.YtlglmooknlmomaaDoorC13
set_option linter.all false
section
namespace Go.Proofs.YtlglmooknlmomaaDoor
open Go.RowKit
set_option maxRecDepth 100000 in
set_option maxHeartbeats 2000000 in
theorem less_calls (b R m : Nat) (n : Int) (w : World) (h : StoreAt w b R m) (hm : m ≤ 1000000000000) (hn : 0 < n) (hn2 : n ≤ 4611686018427387904) :
    Calls Tryd.prog 38 #[.pointer (some ⟨b, 0, none⟩), .int .i64 n] w fun e w' => ∃ v : Int, e = .returned (.int .i64 v) ∧ 0 ≤ v ∧ v < n ∧ StoreAt w' b R (m + 1) ∧ w.grownBy w' (some b) := by
  go_enter Tryd.func38, Tryd.ntmps38
  go_wp2_with fail
  refine (draw_calls b R m _ h hm).mono ?_
  rintro e w1 ⟨v, rfl, v0, v1, hs1, g1⟩
  obtain ⟨r, e1, e2, r0, r1⟩ := tmod_in (x := v / 16) (n := n) (by omega) hn
  go_wp2_with fail
  go_ret
  exact ⟨r, rfl, r0, r1, hs1, g1⟩
set_option maxHeartbeats 2000000 in
theorem seldom_calls (b R m : Nat) (n : Int) (w : World) (h : StoreAt w b R m) (hm : m ≤ 1000000000000) (hn : 0 < n) (hn2 : n ≤ 4611686018427387904) :
    Calls Tryd.prog 39 #[.pointer (some ⟨b, 0, none⟩), .int .i64 n] w fun e w' => ∃ v : Bool, e = .returned (.bool v) ∧ StoreAt w' b R (m + 1) ∧ w.grownBy w' (some b) := by
  go_enter Tryd.func39, Tryd.ntmps39
  go_wp2_with fail
  refine (less_calls b R m n _ h hm hn hn2).mono ?_
  rintro e w1 ⟨v, rfl, v0, v1, hs1, g1⟩
  go_wp2_with fail
  go_ret
  exact ⟨_, rfl, hs1, g1⟩
set_option maxHeartbeats 2000000 in
theorem from_calls (b R m : Nat) (lo hi : Int) (w : World) (h : StoreAt w b R m) (hm : m ≤ 1000000000000) (hl : -1152921504606846976 ≤ lo) (hlh : lo ≤ hi) (hh : hi ≤ 1152921504606846976) :
    Calls Tryd.prog 72 #[.pointer (some ⟨b, 0, none⟩), .int .i64 lo, .int .i64 hi] w fun e w' => ∃ v : Int, e = .returned (.int .i64 v) ∧ lo ≤ v ∧ v ≤ hi ∧ StoreAt w' b R (m + 1) ∧ w.grownBy w' (some b) := by
  have n1 : IntKind.i64.wrap (hi - lo + 1) = hi - lo + 1 := IntWalk.i64_in _ (by omega)
  have n2 : IntKind.i64.wrap (hi - lo) = hi - lo := IntWalk.i64_in _ (by omega)
  go_enter Tryd.func72, Tryd.ntmps72
  go_wp2_with fail
  refine (less_calls b R m _ _ h hm (by omega) (by omega)).mono ?_
  rintro e w1 ⟨v, rfl, v0, v1, hs1, g1⟩
  go_wp2_with fail
  go_ret
  exact ⟨_, rfl, by omega, by omega, hs1, g1⟩
def Boxes (w : World) (b b1 b2 : Nat) (size : Int) : Prop := w.cell? ⟨b1, 0, none⟩ = some (.pointer (some ⟨b, 0, none⟩)) ∧ w.cell? ⟨b2, 0, none⟩ = some (.int .i64 size)
set_option maxHeartbeats 2000000 in
theorem num1_calls (b b1 b2 R m : Nat) (size : Int) (w : World) (h : StoreAt w b R m) (hm : m ≤ 1000000000000) (hs : 0 ≤ size) (hs1 : size ≤ 1152921504606846976) (hb : Boxes w b b1 b2 size) :
    Calls Tryd.prog 71 #[.pointer (some ⟨b1, 0, none⟩), .pointer (some ⟨b2, 0, none⟩)] w fun e w' => ∃ v : Int, e = .returned (.int .i64 v) ∧ -size ≤ v ∧ v ≤ size ∧ StoreAt w' b R (m + 1) ∧ w.grownBy w' (some b) := by
  obtain ⟨c1, c2⟩ := hb
  go_enter Tryd.func71, Tryd.ntmps71
  go_wp2_with fail
  refine (from_calls b R m _ _ _ h hm (by omega) (by omega) (by omega)).mono ?_
  rintro e w1 ⟨v, rfl, v0, v1, hs1, g1⟩
  go_wp2_with fail
  go_ret
  exact ⟨_, rfl, v0, v1, hs1, g1⟩
theorem Boxes.one {w : World} {b b1 b2 : Nat} {size : Int} (h : Boxes w b b1 b2 size) : w.cell? ⟨b1, 0, none⟩ = some (.pointer (some ⟨b, 0, none⟩)) := h.1
theorem Boxes.grown {w w' : World} {b b1 b2 : Nat} {size : Int} (h : Boxes w b b1 b2 size) (g : w.grownBy w' (some b)) (n1 : b1 ≠ b) (n2 : b2 ≠ b) : Boxes w' b b1 b2 size :=
  ⟨g.cell h.1 (by intro e; exact n1 (Option.some.inj e)), g.cell h.2 (by intro e; exact n2 (Option.some.inj e))⟩
theorem Blk.grown {w w' : World} {g b : Nat} {t : TypeId} {cs : Array Value} (h : Blk w g t cs) (hg : w.grownBy w' (some b)) (hne : g ≠ b) : Blk w' g t cs := (hg.block g h.lt (by intro e; exact hne (Option.some.inj e))).trans h
theorem far5 {W : World} {p : Addr} {v : Value} {g : Nat} (h : W.cell? p = some v) (hne : p.block ≠ g) (v0 v1 v2 v3 v4 : Value) :
    (((((W.setCell ⟨g, 0, none⟩ v0).setCell ⟨g, 1, none⟩ v1).setCell ⟨g, 2, none⟩ v2).setCell ⟨g, 3, none⟩ v3).setCell ⟨g, 4, none⟩ v4).cell? p = some v := by
  have n : ∀ i, (⟨g, i, none⟩ : Addr) ≠ p := fun i e => hne (by rw [← e])
  rw [World.cell?_setCell_other _ _ _ _ (n 4), World.cell?_setCell_other _ _ _ _ (n 3), World.cell?_setCell_other _ _ _ _ (n 2), World.cell?_setCell_other _ _ _ _ (n 1), World.cell?_setCell_other _ _ _ _ (n 0)]
  exact h
theorem num1_any (b b1 b2 R m : Nat) (size : Int) (w : World) (h : StoreAt w b R m) (hm : m ≤ 1000000000000) (hs : 0 ≤ size) (hs1 : size ≤ 1152921504606846976) (hb : Boxes w b b1 b2 size) (n1 : b1 ≠ b) (n2 : b2 ≠ b) :
    Calls Tryd.prog 71 #[.pointer (some ⟨b1, 0, none⟩), .pointer (some ⟨b2, 0, none⟩)] w fun e w' => ∃ v : Int, e = .returned (.int .i64 v) ∧ (-size ≤ v ∧ v ≤ size) ∧ StoreAt w' b R (m + 1) ∧ Boxes w' b b1 b2 size ∧ w.grownBy w' (some b) := by
  refine (num1_calls b b1 b2 R m size w h hm hs hs1 hb).mono ?_
  rintro e w1 ⟨v, rfl, v0, v1, hs1, g1⟩
  exact ⟨v, rfl, ⟨v0, v1⟩, hs1, hb.grown g1 n1 n2, g1⟩
theorem StoreAt.lt {w : World} {b R m : Nat} (h : StoreAt w b R m) : b < w.heap.size := by
  obtain ⟨a, n, c, nx, st, hs, _⟩ := h
  exact hs.lt
theorem StoreAt.alloc {w : World} {b R m : Nat} (h : StoreAt w b R m) (o : Obj) : StoreAt (w.alloc o) b R m := by
  have hl := h.lt
  obtain ⟨a, n, c, nx, st, hs, hn, n0, n1, s0, s1, hr, hR⟩ := h
  exact ⟨a, n, c, nx, st, hs.alloc o, hn, n0, n1, s0, s1, hr.grown (World.grownBy_alloc w o _), by simp; omega⟩
theorem StoreAt.far {w : World} {b R m g : Nat} (h : StoreAt w b R m) (hg : g ≠ b) (hR : R ≤ g) (i : Nat) (u : Value) : StoreAt (w.setCell ⟨g, i, none⟩ u) b R m := by
  obtain ⟨a, n, c, nx, st, hs, hn, n0, n1, s0, s1, hr, hRR⟩ := h
  refine ⟨a, n, c, nx, st, hs.far (by exact fun e => hg e.symm) u, hn, n0, n1, s0, s1, ?_, by rw [World.size_setCell]; exact hRR⟩
  rcases hr with h | ⟨r, ha, hr, hl, hz⟩
  · exact .inl h
  · refine .inr ⟨r, ha, hr, hl, fun j hj => ?_⟩
    obtain ⟨z, z0, z1, hc⟩ := hz j hj
    exact ⟨z, z0, z1, by rw [World.cell?_setCell_other _ _ _ _ (by intro e; injection e with e; omega)]; exact hc⟩
theorem StoreAt.top {w : World} {b R m : Nat} (h : StoreAt w b R m) : R ≤ w.heap.size := by
  obtain ⟨a, n, c, nx, st, hs, hn, n0, n1, s0, s1, hr, hRR⟩ := h
  exact hRR
theorem grown_far {w wc : World} {b g : Nat} (h : w.grownBy wc (some b)) (hg : w.heap.size ≤ g) (i : Nat) (u : Value) : w.grownBy (wc.setCell ⟨g, i, none⟩ u) (some b) :=
  ⟨h.os, h.tape, h.output, by rw [World.size_setCell]; exact h.size, fun k hk hn => (Below.heap_setCell wc ⟨g, i, none⟩ u k (by show k ≠ g; omega)).trans (h.block k hk hn)⟩
theorem five_far {w w' : World} {b R m g : Nat} (h : StoreAt w' b R m) (hg : w.grownBy w' (some b)) (h1 : g ≠ b) (h2 : R ≤ g) (h3 : w.heap.size ≤ g) (v0 v1 v2 v3 v4 : Value) :
    StoreAt (((((w'.setCell ⟨g, 0, none⟩ v0).setCell ⟨g, 1, none⟩ v1).setCell ⟨g, 2, none⟩ v2).setCell ⟨g, 3, none⟩ v3).setCell ⟨g, 4, none⟩ v4) b R m ∧
    w.grownBy (((((w'.setCell ⟨g, 0, none⟩ v0).setCell ⟨g, 1, none⟩ v1).setCell ⟨g, 2, none⟩ v2).setCell ⟨g, 3, none⟩ v3).setCell ⟨g, 4, none⟩ v4) (some b) :=
  ⟨((((h.far h1 h2 0 v0).far h1 h2 1 v1).far h1 h2 2 v2).far h1 h2 3 v3).far h1 h2 4 v4, grown_far (grown_far (grown_far (grown_far (grown_far hg h3 0 v0) h3 1 v1) h3 2 v2) h3 3 v3) h3 4 v4⟩
theorem num_start {w : World} {b R m : Nat} (h : StoreAt w b R m) (size : Int) :
    StoreAt (((w.alloc (.cells #[.pointer (some ⟨b, 0, none⟩)] 38)).alloc (.cells #[.int .i64 size] 3)).alloc (.cells #[.int .i64 0, .int .i64 0, .int .i64 0, .int .i64 0, .int .i64 0] 23)) b R m ∧
    Boxes (((w.alloc (.cells #[.pointer (some ⟨b, 0, none⟩)] 38)).alloc (.cells #[.int .i64 size] 3)).alloc (.cells #[.int .i64 0, .int .i64 0, .int .i64 0, .int .i64 0, .int .i64 0] 23)) b w.heap.size (w.heap.size + 1) size ∧
    w.grownBy (((w.alloc (.cells #[.pointer (some ⟨b, 0, none⟩)] 38)).alloc (.cells #[.int .i64 size] 3)).alloc (.cells #[.int .i64 0, .int .i64 0, .int .i64 0, .int .i64 0, .int .i64 0] 23)) (some b) :=
  ⟨((h.alloc _).alloc _).alloc _, ⟨(((Blk.new w _ _).alloc _).alloc _).cell 0, ((Blk.at_ (w.alloc _) _ _ (by simp)).alloc _).cell 0⟩, grown_trans (grown_trans (World.grownBy_alloc w _ _) (World.grownBy_alloc _ _ _)) (World.grownBy_alloc _ _ _)⟩
set_option maxRecDepth 100000 in
set_option maxHeartbeats 8000000 in
theorem num_calls (b R m : Nat) (size roots : Int) (w : World) (h : StoreAt w b R m) (hm : m ≤ 100000000000) (hs : 0 ≤ size) (hs1 : size ≤ 1152921504606846976) (hr : 0 ≤ roots) (hr1 : roots ≤ 1000000) :
    Calls Tryd.prog 27 #[.pointer (some ⟨b, 0, none⟩), .int .i64 size, .int .i64 roots] w fun e w' => ∃ x : Nm, e = .returned (.agg #[.int .i64 x.p.a, .int .i64 x.p.b, .int .i64 x.p.c, .int .i64 x.p.d, .int .i64 x.k]) ∧ Nm.In size roots.toNat x ∧ StoreAt w' b R (m + 5) ∧ w.grownBy w' (some b) := by
  go_enter Tryd.func27, Tryd.ntmps27
  go_wp2_with fail
  have hl := h.lt
  obtain ⟨hs0, hb0, g0⟩ := num_start h size
  have hB0 : Blk (((w.alloc (.cells #[.pointer (some ⟨b, 0, none⟩)] 38)).alloc (.cells #[.int .i64 size] 3)).alloc (.cells #[.int .i64 0, .int .i64 0, .int .i64 0, .int .i64 0, .int .i64 0] 23)) (w.heap.size + 2) 23 #[.int .i64 0, .int .i64 0, .int .i64 0, .int .i64 0, .int .i64 0] := Blk.at_ _ _ _ (by simp)
  generalize ((w.alloc (.cells #[.pointer (some ⟨b, 0, none⟩)] 38)).alloc (.cells #[.int .i64 size] 3)).alloc (.cells #[.int .i64 0, .int .i64 0, .int .i64 0, .int .i64 0, .int .i64 0] 23) = w0 at hs0 hb0 g0 hB0 ⊢
  have n1 : IntKind.i64.wrap (roots + 1) = roots + 1 := IntWalk.i64_in _ (by omega)
  have hs1d : StoreAt w0.drew b R m := hs0
  have hB : Blk w0.drew (w.heap.size + 2) 23 #[.int .i64 0, .int .i64 0, .int .i64 0, .int .i64 0, .int .i64 0] := hB0
  have q3 : w.heap.size + 2 ≠ b := by omega
  have q4 : (⟨w.heap.size, 0, none⟩ : Addr).block ≠ w.heap.size + 1 + 1 := by show w.heap.size ≠ _; omega
  have hbx : Boxes w0.drew b w.heap.size (w.heap.size + 1) size := hb0
  have hk := hbx.one
  have q1 : w.heap.size ≠ b := by omega
  have q2 : w.heap.size + 1 ≠ b := by omega
  go_region_held3 (fun w' => w'.cell? ⟨w.heap.size, 0, none⟩ = some (.pointer (some ⟨b, 0, none⟩))) (first | (with_reducible exact hk) | (with_reducible exact far5 hk q4 _ _ _ _ _))
    (first
      | (go_at_call 38; ((with_reducible refine (less_calls b R _ _ _ (by assumption) (by omega) (by omega) (by omega)).mono ?_); rintro e w' ⟨v, rfl, hv, hv2, hst, hg⟩; have hbx := hbx.grown hg q1 q2; have hB := hB.grown hg q3; have hk := Boxes.one hbx; obtain ⟨z0, z1, z2, z3, z4, zf⟩ := hB.cells5))
      | (go_at_call 71; ((with_reducible refine (num1_any b _ _ R _ size _ (by assumption) (by omega) hs hs1 (by assumption) q1 q2).mono ?_); rintro e w' ⟨v, rfl, hv, hst, hbx, hg⟩; have hB := hB.grown hg q3; have hk := Boxes.one hbx)))
  rename_i w1 v0 hv0 st1 bx1 hg0 B1 k1 w2 v1 hv1 st2 bx2 hg1 B2 k2 w3 v2 hv2' st3 bx3 hg2 B3 k3 w4 v3 hv3 st4 bx4 hg3 B4 k4 held
  have hB5 := hB.put5 (a' := .int .i64 v0) (b' := .int .i64 v1) (c' := .int .i64 v2) (d' := .int .i64 v3) (e' := .int .i64 v)
  have hS : StoreAt w' b R (m + 5) := hst
  have hG : w.grownBy w' (some b) := grown_trans (grown_trans (grown_trans (grown_trans (grown_trans (grown_drew g0) hg0) hg1) hg2) hg3) hg
  obtain ⟨hS5, hG5⟩ := five_far hS hG q3 (by have := h.top; omega) (by omega) (.int .i64 v0) (.int .i64 v1) (.int .i64 v2) (.int .i64 v3) (.int .i64 v)
  clear held hk hB hbx hst hg k4 B4 hg3 bx4 st4 k3 B3 hg2 bx3 st3 k2 B2 hg1 bx2 st2 k1 B1 hg0 bx1 st1 z0 z1 z2 z3 z4 zf hs0 hb0 g0 hB0 hS hG
  obtain ⟨z0, z1, z2, z3, z4, zf⟩ := hB5.cells5
  go_wp2_with fail
  refine bodyPost_ret (v := .agg #[.int .i64 v0, .int .i64 v1, .int .i64 v2, .int .i64 v3, .int .i64 v]) (by simp [results, Tryd.results27, go_sem, z0, z1, z2, z3, z4]) rfl ⟨⟨⟨v0, v1, v2, v3⟩, v⟩, rfl, ⟨⟨hv0, hv1, hv2', hv3⟩, hv, ?_⟩, hS5, hG5⟩
  show v ≤ (roots.toNat : Int)
  omega
def BytesAt (w : World) (a : Option Addr) (n : Nat) : Prop := n = 0 ∨ ∃ (b off : Nat), a = some ⟨b, off, none⟩ ∧ ∀ j, j < n → ∃ z : Int, 0 ≤ z ∧ z ≤ 255 ∧ w.cell? ⟨b, off + j, none⟩ = some (.int .u8 z)
theorem BytesAt.list {w : World} {a : Option Addr} {n : Nat} (h : BytesAt w a n) (hn : n ≠ 0) :
    ∃ (b off : Nat) (zs : List Int), a = some ⟨b, off, none⟩ ∧ zs.length = n ∧ (∀ z ∈ zs, 0 ≤ z ∧ z ≤ 255) ∧ ∀ j, j < zs.length → w.cell? ⟨b, off + j, none⟩ = some (.int .u8 (zs.getD j 0)) := by
  rcases h with h | ⟨b, off, ha, hc⟩
  · exact absurd h hn
  · refine ⟨b, off, (List.range n).map fun j => match w.cell? ⟨b, off + j, none⟩ with | some (.int .u8 z) => z | _ => 0, ha, by simp, ?_, ?_⟩
    · intro z hz
      obtain ⟨j, hj, rfl⟩ := List.mem_map.1 hz
      obtain ⟨z, z0, z1, e⟩ := hc j (List.mem_range.1 hj)
      rw [e]
      exact ⟨z0, z1⟩
    · intro j hj
      have hj2 : j < n := by simpa using hj
      obtain ⟨z, z0, z1, e⟩ := hc j hj2
      simp only [List.getD, List.getElem?_map, List.getElem?_range hj2, Option.map_some, Option.getD_some, e]
end Go.Proofs.YtlglmooknlmomaaDoor
end
