import Derived.RegionTactic
import Derived.BigRegion
import Derived.ChangeAlike
import Derived.BigQuiet
import Derived.Deep.QuietTactic
import Derived.Deep.RegionHeld3
import Derived.Laws.Closers25b
import Derived.IntWalk
import Derived.Shelf.SlLaysN
import Derived.WalkKit
import Derived.Lib.Walk
import Derived.Lib.SliceRun
import Derived.Test.YtonnegkpjmhomaaGreatDoorDLaid8
import Derived.Test.YtonnegkpjmhomaaGreatDoorDLaid14
set_option linter.all false
section
set_option linter.all false
namespace Go.Proofs.YtonnegkpjmhomaaGreatDoor
open Go.RowKit
def Row8 (w : World) (b R : Nat) (a : Option Addr) (n : Nat) : Prop :=
  n = 0 ∨ ∃ r, a = some ⟨r, 0, none⟩ ∧ r ≠ b ∧ r < R ∧ ∀ j, j < n → ∃ z : Int, 0 ≤ z ∧ z ≤ 255 ∧ w.cell? ⟨r, j, none⟩ = some (.int .u8 z)
def StoreAt (w : World) (b R m : Nat) : Prop :=
  ∃ (a : Option Addr) (n c : Nat) (nx st : Int), Blk w b 80 #[.slice a n c, .int .i64 nx, .int .u32 st] ∧ n ≤ 300 ∧ 0 ≤ nx ∧ nx ≤ m ∧ 0 ≤ st ∧ st ≤ 4294967295 ∧ Row8 w b R a n ∧ R ≤ w.heap.size
theorem Blk.three4 {w : World} {g : Nat} {t : TypeId} {x y z : Value} (h : Blk w g t #[x, y, z]) : w.cell? ⟨g, 0, none⟩ = some x ∧ w.cell? ⟨g, 1, none⟩ = some y ∧ w.cell? ⟨g, 2, none⟩ = some z ∧ ∀ i, w.frozen? ⟨g, i, none⟩ = false := ⟨h.cell 0, h.cell 1, h.cell 2, h.frozen⟩
theorem xor_ex (x y : Int) : ∃ s : Int, 0 ≤ s ∧ s ≤ 4294967295 ∧ bits .xor .u32 x y = s := ⟨_, bits_lo_u32 _ x y, bits_hi_u32 _ x y, rfl⟩
theorem grown_refl (w : World) (row : Option Nat) : w.grownBy w row := ⟨rfl, rfl, rfl, Nat.le_refl _, fun _ _ _ => rfl⟩
theorem gTrans {w w1 w2 : World} {row : Option Nat} (h : w.grownBy w1 row) (h2 : w1.grownBy w2 row) : w.grownBy w2 row :=
  ⟨h2.os.trans h.os, h2.tape.trans h.tape, h2.output.trans h.output, Nat.le_trans h.size h2.size, fun k hk hn => (h2.block k (Nat.lt_of_lt_of_le hk h.size) hn).trans (h.block k hk hn)⟩
theorem gSet {w wc : World} {b : Nat} (h : w.grownBy wc (some b)) (i : Nat) (u : Value) : w.grownBy (wc.setCell ⟨b, i, none⟩ u) (some b) := by
  have hb : Below (b + 1) wc wc := Below.refl _ _
  refine ⟨h.os, h.tape, h.output, ?_, ?_⟩
  · rw [World.size_setCell]; exact h.size
  · intro k hk hn
    have hne : k ≠ b := fun e => hn (by rw [e])
    exact (Below.heap_setCell wc ⟨b, i, none⟩ u k hne).trans (h.block k hk hn)
theorem grown_drew {w wc : World} {row : Option Nat} (h : w.grownBy wc row) : w.grownBy wc.drew row := ⟨h.os, h.tape, h.output, h.size, h.block⟩
theorem put2 {w wc : World} {b : Nat} {t : TypeId} {x y z : Value} (h : Blk wc b t #[x, y, z]) (g : w.grownBy wc (some b)) (u : Value) :
    ∃ w1, (wc.setCell ⟨b, 2, none⟩ u).drew = w1 ∧ Blk w1 b t #[x, y, u] ∧ w.grownBy w1 (some b) := ⟨_, rfl, h.set_ 2 u, grown_drew (gSet g 2 u)⟩
set_option maxRecDepth 100000 in
set_option maxHeartbeats 4000000 in
theorem draw_none (b : Nat) (w : World) (a : Option Addr) (c : Nat) (nx st : Int) (hs : Blk w b 80 #[.slice a 0 c, .int .i64 nx, .int .u32 st]) :
    Calls Tryz.prog 83 #[.pointer (some ⟨b, 0, none⟩)] w fun e w' => ∃ v st' : Int, e = .returned (.int .u32 v) ∧ 0 ≤ v ∧ v ≤ 4294967295 ∧ Blk w' b 80 #[.slice a 0 c, .int .i64 nx, .int .u32 st'] ∧ 0 ≤ st' ∧ st' ≤ 4294967295 ∧ w.grownBy w' (some b) := by
  have g0 := grown_refl w (some b)
  obtain ⟨c0, c1, c2, fz⟩ := hs.three4
  go_enter Tryz.func83, Tryz.ntmps83
  go_wp2
  go_region
  obtain ⟨s1, l1, u1, e1⟩ := xor_ex st (st * 8192 % 4294967296)
  rw [e1]
  obtain ⟨w1, e2, hs1, g1⟩ := put2 hs g0 (.int .u32 s1)
  rw [e2]
  clear e1 e2 c0 c1 c2 fz hs g0
  obtain ⟨c0, c1, c2, fz⟩ := hs1.three4
  go_wp2
  go_region
  obtain ⟨s2, l2, u2, e1⟩ := xor_ex s1 (s1 / 131072)
  rw [e1]
  obtain ⟨w2, e2, hs2, g2⟩ := put2 hs1 g1 (.int .u32 s2)
  rw [e2]
  clear e1 e2 c0 c1 c2 fz hs1 g1 l1 u1
  obtain ⟨c0, c1, c2, fz⟩ := hs2.three4
  go_wp2
  go_region
  obtain ⟨s3, l3, u3, e1⟩ := xor_ex s2 (s2 * 32 % 4294967296)
  rw [e1]
  obtain ⟨w3, e2, hs3, g3⟩ := put2 hs2 g2 (.int .u32 s3)
  rw [e2]
  clear e1 e2 c0 c1 c2 fz hs2 g2 l2 u2
  obtain ⟨c0, c1, c2, fz⟩ := hs3.three4
  go_wp2
  go_ret
  exact ⟨_, s3, rfl, by omega, by omega, hs3, l3, u3, g3⟩
set_option maxRecDepth 100000 in
set_option maxHeartbeats 8000000 in
theorem draw_some (b r : Nat) (w : World) (n c : Nat) (nx st z : Int) (q : Nat) (hs : Blk w b 80 #[.slice (some ⟨r, 0, none⟩) n c, .int .i64 nx, .int .u32 st]) (hn : 0 < n) (hr : r ≠ b)
    (h0 : 0 ≤ nx) (h1 : nx ≤ 1000000000000) (hq0 : nx % (n : Int) = q) (hq : q < n) (hz : w.cell? ⟨r, q, none⟩ = some (.int .u8 z)) (hz0 : 0 ≤ z) (hz1 : z ≤ 255) :
    Calls Tryz.prog 83 #[.pointer (some ⟨b, 0, none⟩)] w fun e w' => ∃ v st' : Int, e = .returned (.int .u32 v) ∧ 0 ≤ v ∧ v ≤ 4294967295 ∧ Blk w' b 80 #[.slice (some ⟨r, 0, none⟩) n c, .int .i64 (nx + 1), .int .u32 st'] ∧ 0 ≤ st' ∧ st' ≤ 4294967295 ∧ w.grownBy w' (some b) := by
  have hq1 : Int.tmod nx (n : Int) = q := by rw [Int.tmod_eq_emod_of_nonneg h0]; exact hq0
  have hrl : r < w.heap.size := World.block_lt_of_cell? w ⟨r, q, none⟩ hz
  have g0 := grown_refl w (some b)
  have rc : ∀ {w1 : World}, w.grownBy w1 (some b) → w1.cell? ⟨r, q, none⟩ = some (.int .u8 z) := fun g => g.cell hz (by intro e; exact hr (Option.some.inj e))
  obtain ⟨c0, c1, c2, fz⟩ := hs.three4
  go_enter Tryz.func83, Tryz.ntmps83
  go_wp2
  go_region
  obtain ⟨s1, l1, u1, e1⟩ := xor_ex st (st * 8192 % 4294967296)
  rw [e1]
  obtain ⟨w1, e2, hs1, g1⟩ := put2 hs g0 (.int .u32 s1)
  rw [e2]
  clear e1 e2 c0 c1 c2 fz hs g0
  obtain ⟨c0, c1, c2, fz⟩ := hs1.three4
  go_wp2
  go_region
  obtain ⟨s2, l2, u2, e1⟩ := xor_ex s1 (s1 / 131072)
  rw [e1]
  obtain ⟨w2, e2, hs2, g2⟩ := put2 hs1 g1 (.int .u32 s2)
  rw [e2]
  clear e1 e2 c0 c1 c2 fz hs1 g1 l1 u1
  obtain ⟨c0, c1, c2, fz⟩ := hs2.three4
  go_wp2
  go_region
  obtain ⟨s3, l3, u3, e1⟩ := xor_ex s2 (s2 * 32 % 4294967296)
  rw [e1]
  obtain ⟨w3, e2, hs3, g3⟩ := put2 hs2 g2 (.int .u32 s3)
  rw [e2]
  clear e1 e2 c0 c1 c2 fz hs2 g2 l2 u2
  obtain ⟨c0, c1, c2, fz⟩ := hs3.three4
  have rz := rc g3
  go_wp2
  go_quiet (fail)
  obtain ⟨w4, e2, hs4, g4⟩ : ∃ w4, w3.drewN nq = w4 ∧ Blk w4 b 80 #[.slice (some ⟨r, 0, none⟩) n c, .int .i64 nx, .int .u32 s3] ∧ w.grownBy w4 (some b) := ⟨_, rfl, hs3, ⟨g3.os, g3.tape, g3.output, g3.size, g3.block⟩⟩
  rw [e2]
  clear e2 c0 c1 c2 fz rz hs3 g3
  obtain ⟨c0, c1, c2, fz⟩ := hs4.three4
  have rz := rc g4
  go_wp2
  go_region
  obtain ⟨s5, l5, u5, e1⟩ : ∃ s : Int, 0 ≤ s ∧ s ≤ 4294967295 ∧ (s3 + (z + 1)) % 4294967296 = s := ⟨_, by omega, by omega, rfl⟩
  rw [e1]
  obtain ⟨w5, e2, hs5, g5⟩ := put2 hs4 g4 (.int .u32 s5)
  rw [e2]
  clear e1 e2 c0 c1 c2 fz rz hs4 g4
  obtain ⟨c0, c1, c2, fz⟩ := hs5.three4
  go_wp2
  go_ret
  exact ⟨_, s5, rfl, by omega, by omega, hs5.set_ 1 _, l5, u5, gSet g5 1 _⟩
theorem Row8.grown {w w' : World} {b R : Nat} {a : Option Addr} {n : Nat} (h : Row8 w b R a n) (g : w.grownBy w' (some b)) : Row8 w' b R a n := by
  rcases h with h | ⟨r, ha, hr, hl, hz⟩
  · exact .inl h
  · exact .inr ⟨r, ha, hr, hl, fun j hj => by
      obtain ⟨z, z0, z1, hc⟩ := hz j hj
      exact ⟨z, z0, z1, g.cell hc (by intro e; exact hr (Option.some.inj e))⟩⟩
theorem draw_calls (b R m : Nat) (w : World) (h : StoreAt w b R m) (hm : m ≤ 1000000000000) :
    Calls Tryz.prog 83 #[.pointer (some ⟨b, 0, none⟩)] w fun e w' => ∃ v : Int, e = .returned (.int .u32 v) ∧ 0 ≤ v ∧ v ≤ 4294967295 ∧ StoreAt w' b R (m + 1) ∧ w.grownBy w' (some b) := by
  obtain ⟨a, n, c, nx, st, hs, hn, n0, n1, s0, s1, hr, hR⟩ := h
  by_cases h0 : n = 0
  · subst h0
    refine (draw_none b w a c nx st hs).mono ?_
    rintro e w' ⟨v, st', rfl, v0, v1, hs', t0, t1, g⟩
    exact ⟨v, rfl, v0, v1, ⟨a, 0, c, nx, st', hs', by omega, n0, by omega, t0, t1, .inl rfl, Nat.le_trans hR g.size⟩, g⟩
  · rcases id hr with h | ⟨r, rfl, hrb, hl, hz⟩
    · exact absurd h h0
    obtain ⟨q, hq0⟩ : ∃ q : Nat, nx % (n : Int) = q := ⟨(nx % (n : Int)).toNat, by have := Int.emod_nonneg nx (b := (n : Int)) (by omega); omega⟩
    have hq : q < n := by have := Int.emod_lt_of_pos nx (b := (n : Int)) (by omega); omega
    obtain ⟨z, z0, z1, hc⟩ := hz q hq
    refine (draw_some b r w n c nx st z q hs (by omega) hrb n0 (by omega) hq0 hq hc z0 z1).mono ?_
    rintro e w' ⟨v, st', rfl, v0, v1, hs', t0, t1, g⟩
    exact ⟨v, rfl, v0, v1, ⟨_, n, c, nx + 1, st', hs', hn, by omega, by omega, t0, t1, hr.grown g, Nat.le_trans hR g.size⟩, g⟩
theorem tmod_in {x n : Int} (hx : 0 ≤ x) (hn : 0 < n) : ∃ r, x.tmod n = r ∧ x % n = r ∧ 0 ≤ r ∧ r < n := ⟨x % n, Int.tmod_eq_emod_of_nonneg hx, rfl, Int.emod_nonneg x (by omega), Int.emod_lt_of_pos x hn⟩
theorem StoreAt.mono {w : World} {b R m m' : Nat} (h : StoreAt w b R m) (hm : m ≤ m') : StoreAt w b R m' := by
  obtain ⟨a, n, c, nx, st, hs, hn, n0, n1, s0, s1, hr, hR⟩ := h
  exact ⟨a, n, c, nx, st, hs, hn, n0, by omega, s0, s1, hr, hR⟩
set_option maxRecDepth 100000 in
set_option maxHeartbeats 2000000 in
theorem less_calls (b R m : Nat) (n : Int) (w : World) (h : StoreAt w b R m) (hm : m ≤ 1000000000000) (hn : 0 < n) (hn2 : n ≤ 4611686018427387904) :
    Calls Tryz.prog 39 #[.pointer (some ⟨b, 0, none⟩), .int .i64 n] w fun e w' => ∃ v : Int, e = .returned (.int .i64 v) ∧ 0 ≤ v ∧ v < n ∧ StoreAt w' b R (m + 1) ∧ w.grownBy w' (some b) := by
  go_enter Tryz.func39, Tryz.ntmps39
  go_wp2_with fail
  refine (draw_calls b R m _ h hm).mono ?_
  rintro e w1 ⟨v, rfl, v0, v1, hs1, g1⟩
  obtain ⟨r, e1, e2, r0, r1⟩ := tmod_in (x := v / 16) (n := n) (by omega) hn
  go_wp2_with fail
  go_ret
  exact ⟨r, rfl, r0, r1, hs1, g1⟩
set_option maxHeartbeats 2000000 in
theorem seldom_calls (b R m : Nat) (n : Int) (w : World) (h : StoreAt w b R m) (hm : m ≤ 1000000000000) (hn : 0 < n) (hn2 : n ≤ 4611686018427387904) :
    Calls Tryz.prog 82 #[.pointer (some ⟨b, 0, none⟩), .int .i64 n] w fun e w' => ∃ v : Bool, e = .returned (.bool v) ∧ StoreAt w' b R (m + 1) ∧ w.grownBy w' (some b) := by
  go_enter Tryz.func82, Tryz.ntmps82
  go_wp2_with fail
  refine (less_calls b R m n _ h hm hn hn2).mono ?_
  rintro e w1 ⟨v, rfl, v0, v1, hs1, g1⟩
  go_wp2_with fail
  go_ret
  exact ⟨_, rfl, hs1, g1⟩
set_option maxHeartbeats 2000000 in
theorem from_calls (b R m : Nat) (lo hi : Int) (w : World) (h : StoreAt w b R m) (hm : m ≤ 1000000000000) (hl : -1152921504606846976 ≤ lo) (hlh : lo ≤ hi) (hh : hi ≤ 1152921504606846976) :
    Calls Tryz.prog 38 #[.pointer (some ⟨b, 0, none⟩), .int .i64 lo, .int .i64 hi] w fun e w' => ∃ v : Int, e = .returned (.int .i64 v) ∧ lo ≤ v ∧ v ≤ hi ∧ StoreAt w' b R (m + 1) ∧ w.grownBy w' (some b) := by
  have n1 : IntKind.i64.wrap (hi - lo + 1) = hi - lo + 1 := IntWalk.i64_in _ (by omega)
  have n2 : IntKind.i64.wrap (hi - lo) = hi - lo := IntWalk.i64_in _ (by omega)
  go_enter Tryz.func38, Tryz.ntmps38
  go_wp2_with fail
  refine (less_calls b R m _ _ h hm (by omega) (by omega)).mono ?_
  rintro e w1 ⟨v, rfl, v0, v1, hs1, g1⟩
  go_wp2_with fail
  go_ret
  exact ⟨_, rfl, by omega, by omega, hs1, g1⟩
theorem StoreAt.lt {w : World} {b R m : Nat} (h : StoreAt w b R m) : b < w.heap.size := by
  obtain ⟨a, n, c, nx, st, hs, _⟩ := h
  exact hs.lt
theorem StoreAt.alloc {w : World} {b R m : Nat} (h : StoreAt w b R m) (o : Obj) : StoreAt (w.alloc o) b R m := by
  have hl := h.lt
  obtain ⟨a, n, c, nx, st, hs, hn, n0, n1, s0, s1, hr, hR⟩ := h
  exact ⟨a, n, c, nx, st, hs.alloc o, hn, n0, n1, s0, s1, hr.grown (World.grownBy_alloc w o _), by simp; omega⟩
theorem StoreAt.far {w : World} {b R m g : Nat} (h : StoreAt w b R m) (hg : g ≠ b) (hR : R ≤ g) (i : Nat) (u : Value) : StoreAt (w.setCell ⟨g, i, none⟩ u) b R m := by
  obtain ⟨a, n, c, nx, st, hs, hn, n0, n1, s0, s1, hr, hRR⟩ := h
  refine ⟨a, n, c, nx, st, hs.far (by exact fun e => hg e.symm) u, hn, n0, n1, s0, s1, ?_, by rw [World.size_setCell]; exact hRR⟩
  rcases hr with h | ⟨r, ha, hr, hl, hz⟩
  · exact .inl h
  · refine .inr ⟨r, ha, hr, hl, fun j hj => ?_⟩
    obtain ⟨z, z0, z1, hc⟩ := hz j hj
    exact ⟨z, z0, z1, by rw [World.cell?_setCell_other _ _ _ _ (by intro e; injection e with e; omega)]; exact hc⟩
theorem StoreAt.top {w : World} {b R m : Nat} (h : StoreAt w b R m) : R ≤ w.heap.size := by
  obtain ⟨a, n, c, nx, st, hs, hn, n0, n1, s0, s1, hr, hRR⟩ := h
  exact hRR
def BytesAt (w : World) (a : Option Addr) (n : Nat) : Prop := n = 0 ∨ ∃ (b off : Nat), a = some ⟨b, off, none⟩ ∧ ∀ j, j < n → ∃ z : Int, 0 ≤ z ∧ z ≤ 255 ∧ w.cell? ⟨b, off + j, none⟩ = some (.int .u8 z)
theorem BytesAt.list {w : World} {a : Option Addr} {n : Nat} (h : BytesAt w a n) (hn : n ≠ 0) :
    ∃ (b off : Nat) (zs : List Int), a = some ⟨b, off, none⟩ ∧ zs.length = n ∧ (∀ z ∈ zs, 0 ≤ z ∧ z ≤ 255) ∧ ∀ j, j < zs.length → w.cell? ⟨b, off + j, none⟩ = some (.int .u8 (zs.getD j 0)) := by
  rcases h with h | ⟨b, off, ha, hc⟩
  · exact absurd h hn
  · refine ⟨b, off, (List.range n).map fun j => match w.cell? ⟨b, off + j, none⟩ with | some (.int .u8 z) => z | _ => 0, ha, by simp, ?_, ?_⟩
    · intro z hz
      obtain ⟨j, hj, rfl⟩ := List.mem_map.1 hz
      obtain ⟨z, z0, z1, e⟩ := hc j (List.mem_range.1 hj)
      rw [e]
      exact ⟨z0, z1⟩
    · intro j hj
      have hj2 : j < n := by simpa using hj
      obtain ⟨z, z0, z1, e⟩ := hc j hj2
      simp only [List.getD, List.getElem?_map, List.getElem?_range hj2, Option.map_some, Option.getD_some, e]
theorem info8 : (Tryz.prog.info? 5).map (fun i => (i.zero, i.size, i.bytes)) = some (some (.int .u8 0), 1, 1) := by kernel_rfl
set_option maxHeartbeats 2000000 in
set_option maxRecDepth 100000 in
theorem clone_some (b off n c : Nat) (zs : List Int) (w : World) (hz : zs.length = n) (hn : n ≤ 300) (hc : ∀ j, j < zs.length → w.cell? ⟨b, off + j, none⟩ = some (.int .u8 (zs.getD j 0))) :
    Calls Tryz.prog 44 #[.slice (some ⟨b, off, none⟩) n c] w fun e w' => ∃ v', e = .returned v' ∧ w'.ownsRow w.heap.size 5 1 v' n (zs.map (Value.int .u8)) ∧ Below w.heap.size w w' := by
  have q22 : ∀ (w : World) (a : Option Addr) (n c n' c' : Nat), (binOp .eql 22 (.slice a n c) (.slice none n' c')).run Tryz.prog w = .ok (.bool a.isNone) w := fun w a n c n' c' => Lib.run_eql_slice_nil w _ _ a n c n' c' Tryz.underlying22
  have A : Aside (∀ j, j < zs.length → w.cell? ⟨b, off + j, none⟩ = some (.int .u8 (zs.getD j 0))) := hc
  clear hc
  obtain ⟨i0, hi, hz0, hz1, hz2⟩ := info_parts info8
  have HZ := Lib.hid hz
  clear hz
  go_enter Tryz.func44, Tryz.ntmps44
  go_wp2_with (at_builtin; refine wpList_append_own _ rfl _ _ 22 rfl w.heap.size 5 i0 (.int .u8 0) 1 1 Tryz.underlying22 hi hz0 hz1 hz2 rfl (by decide) _ _ _ rfl (World.ownsRow_made w #[] 0 (Nat.le_refl _) (Nat.zero_le _) rfl) ⟨b, off, none⟩ n c (zs.map (Value.int .u8)) rfl ?qc1 ?qc2 ?qc3 ?qc4 ?qc5 ?qc6 ?_)
  case qc1 => have := HZ.out; simp; omega
  case qc2 =>
    intro j u hj
    have hjn : j < zs.length := by
      have := (List.getElem?_eq_some_iff.1 hj).1
      simpa using this
    rw [Addr.add_lit]
    refine Lib.cell?_alloc_some _ ?_
    rw [A.out j hjn]
    have e : (zs.map (Value.int .u8))[j]? = some (Value.int .u8 (zs.getD j 0)) := by simp [List.getD, List.getElem?_eq_getElem hjn]
    rw [e] at hj
    exact hj
  case qc3 => intro u hu; obtain ⟨x, _, rfl⟩ := List.mem_map.1 hu; rfl
  case qc4 => unfold maxLen; omega
  case qc5 => omega
  case qc6 => simp
  intro v' w1 hown hgrow hnil
  go_wp2
  go_ret
  refine ⟨v', rfl, by simpa using hown, ?_⟩
  exact ((Below.refl _ w).alloc (Nat.le_refl _) _).grown hgrow (by simp) (by intro k hk; simp [Value.ownBlock] at hk; omega)
set_option maxHeartbeats 1000000 in
theorem clone_nil (n c : Nat) (w : World) :
    Calls Tryz.prog 44 #[.slice none n c] w fun e w' => e = .returned (.slice none 0 0) ∧ w' = w := by
  have q22 : ∀ (w : World) (a : Option Addr) (n c n' c' : Nat), (binOp .eql 22 (.slice a n c) (.slice none n' c')).run Tryz.prog w = .ok (.bool a.isNone) w := fun w a n c n' c' => Lib.run_eql_slice_nil w _ _ a n c n' c' Tryz.underlying22
  go_enter Tryz.func44, Tryz.ntmps44
  go_wp2
  go_ret
  exact ⟨rfl, rfl⟩
set_option maxHeartbeats 2000000 in
set_option maxRecDepth 100000 in
theorem clone_zero (a : Addr) (c : Nat) (w : World) :
    Calls Tryz.prog 44 #[.slice (some a) 0 c] w fun e w' => ∃ v', e = .returned v' ∧ w'.ownsRow w.heap.size 5 1 v' 0 [] ∧ Below w.heap.size w w' := by
  have q22 : ∀ (w : World) (a : Option Addr) (n c n' c' : Nat), (binOp .eql 22 (.slice a n c) (.slice none n' c')).run Tryz.prog w = .ok (.bool a.isNone) w := fun w a n c n' c' => Lib.run_eql_slice_nil w _ _ a n c n' c' Tryz.underlying22
  obtain ⟨i0, hi, hz0, hz1, hz2⟩ := info_parts info8
  go_enter Tryz.func44, Tryz.ntmps44
  go_wp2_with (at_builtin; refine wpList_append_own _ rfl _ _ 22 rfl w.heap.size 5 i0 (.int .u8 0) 1 1 Tryz.underlying22 hi hz0 hz1 hz2 rfl (by decide) _ _ _ rfl (World.ownsRow_made w #[] 0 (Nat.le_refl _) (Nat.zero_le _) rfl) a 0 c [] rfl rfl (by intro j u hj; simp at hj) (by intro u hu; cases hu) (by unfold maxLen; omega) (by omega) (by simp) ?_)
  intro v' w1 hown hgrow hnil
  go_wp2
  go_ret
  refine ⟨v', rfl, by simpa using hown, ?_⟩
  exact ((Below.refl _ w).alloc (Nat.le_refl _) _).grown hgrow (by simp) (by intro k hk; simp [Value.ownBlock] at hk; omega)
theorem clone_any (a : Option Addr) (n c : Nat) (w : World) (h : BytesAt w a n) (hn : n ≤ 300) (ha : a = none → n = 0) :
    Calls Tryz.prog 44 #[.slice a n c] w fun e w' => ∃ (a' : Option Addr) (c' : Nat), e = .returned (.slice a' n c') ∧ Below w.heap.size w w' ∧
      (n = 0 ∨ ∃ r, a' = some ⟨r, 0, none⟩ ∧ r < w'.heap.size ∧ ∀ j, j < n → ∃ z : Int, 0 ≤ z ∧ z ≤ 255 ∧ w'.cell? ⟨r, j, none⟩ = some (.int .u8 z)) := by
  by_cases h0 : n = 0
  · subst h0
    cases a with
    | none =>
      refine (clone_nil 0 c w).mono ?_
      rintro e w' ⟨rfl, rfl⟩
      exact ⟨none, 0, rfl, Below.refl _ _, .inl rfl⟩
    | some a =>
      refine (clone_zero a c w).mono ?_
      rintro e w' ⟨v', rfl, ho, hb⟩
      rcases ho.2 with ⟨rfl, _⟩ | ⟨g, cap, cur, rfl, _⟩
      · exact ⟨none, 0, rfl, hb, .inl rfl⟩
      · exact ⟨some ⟨g, 0, none⟩, cap, rfl, hb, .inl rfl⟩
  · obtain ⟨b, off, zs, rfl, hl, hz, hc⟩ := h.list h0
    refine (clone_some b off n c zs w hl hn hc).mono ?_
    rintro e w' ⟨v', rfl, ho, hb⟩
    rcases ho.2 with ⟨_, h⟩ | ⟨g, cap, cur, rfl, hg, hcur, _⟩
    · exact absurd h h0
    · refine ⟨some ⟨g, 0, none⟩, cap, rfl, hb, .inr ⟨g, rfl, (Array.getElem?_eq_some_iff.1 hcur).1, fun j hj => ?_⟩⟩
      have e := World.ownsRow.cellAt ho j (by omega)
      have e2 : (zs.map (Value.int .u8))[j]? = some (.int .u8 (zs.getD j 0)) := by simp [List.getD, List.getElem?_eq_getElem (show j < zs.length by omega)]
      have hm : zs.getD j 0 ∈ zs := by rw [List.getD, List.getElem?_eq_getElem (show j < zs.length by omega)]; exact List.getElem_mem _
      exact ⟨zs.getD j 0, (hz _ hm).1, (hz _ hm).2, e.trans e2⟩
theorem BytesAt.take {w : World} {a : Option Addr} {n m : Nat} (h : BytesAt w a n) (hm : m ≤ n) : BytesAt w a m := by
  rcases h with h | ⟨b, off, ha, hc⟩
  · exact .inl (by omega)
  · exact .inr ⟨b, off, ha, fun j hj => hc j (by omega)⟩
set_option maxHeartbeats 2000000 in
set_option maxRecDepth 100000 in
theorem store_calls (a : Option Addr) (n c : Nat) (w : World) (h : BytesAt w a n) (ha : a = none → n = 0) (hc : n ≤ c) :
    Calls Tryz.prog 12 #[.slice a n c] w fun e w' => ∃ b : Nat, e = .returned (.pointer (some ⟨b, 0, none⟩)) ∧ w.heap.size ≤ b ∧ StoreAt w' b b 0 ∧ Below w.heap.size w w' := by
  have hm : (min (n : Int) 300).toNat ≤ 300 := by omega
  have hm2 : (min (n : Int) 300).toNat ≤ n := by omega
  have H := clone_any a (min (n : Int) 300).toNat c w (h.take hm2) hm (fun e => by have := ha e; omega)
  have HH := Lib.hid H
  have Hm := Lib.hid hm
  clear H hm hm2 h ha
  go_enter Tryz.func12, Tryz.ntmps12
  go_wp2_with fail
  refine HH.out.mono ?_
  rintro e w1 ⟨a', c', rfl, hb, hr⟩
  have Hr := Lib.hid hr
  clear hr
  go_wp2_with fail
  go_ret
  refine ⟨w1.heap.size, rfl, hb.size, ⟨a', _, c', 0, 2463534242, Blk.new _ _ _, Hm.out, by omega, by omega, by omega, by omega, ?_, by simp⟩, hb.alloc hb.size _⟩
  rcases Hr.out with h | ⟨r, ha, hl, hz⟩
  · exact .inl h
  · exact .inr ⟨r, ha, by omega, hl, fun j hj => by
      obtain ⟨z, z0, z1, hc⟩ := hz j hj
      exact ⟨z, z0, z1, Lib.cell?_alloc_some _ hc⟩⟩
theorem StoreAt.below {w w' : World} {b R m : Nat} (h : StoreAt w b R m) (hb : Below w.heap.size w w') : StoreAt w' b R m := by
  have hl := h.lt
  obtain ⟨a, n, c, nx, st, hs, hn, n0, n1, s0, s1, hr, hR⟩ := h
  exact ⟨a, n, c, nx, st, hs.below hb hl, hn, n0, n1, s0, s1, hr.grown (b := b) ⟨hb.os, hb.tape, hb.output, hb.size, fun k hk _ => hb.block k hk⟩, Nat.le_trans hR hb.size⟩
theorem StoreAt.drew {w : World} {b R m : Nat} (h : StoreAt w b R m) : StoreAt w.drew b R m := h
end Go.Proofs.YtonnegkpjmhomaaGreatDoor
end
