import Derived.RegionTactic
import Derived.BigRegion
import Derived.ChangeAlike
import Derived.BigQuiet
import Derived.Deep.QuietTactic
import Derived.Deep.RegionHeld3
import Derived.Laws.Closers25b
import Derived.IntWalk
import Derived.Test.YtlglmooknlmomaaDoorC4
import Derived.Test.YtlglmooknlmomaaDoorC5
set_option linter.all false
section
namespace Go.Proofs.YtlglmooknlmomaaDoor
open Go.RowKit
def Row8 (w : World) (b R : Nat) (a : Option Addr) (n : Nat) : Prop :=
  n = 0 ∨ ∃ r, a = some ⟨r, 0, none⟩ ∧ r ≠ b ∧ r < R ∧ ∀ j, j < n → ∃ z : Int, 0 ≤ z ∧ z ≤ 255 ∧ w.cell? ⟨r, j, none⟩ = some (.int .u8 z)
def StoreAt (w : World) (b R m : Nat) : Prop :=
  ∃ (a : Option Addr) (n c : Nat) (nx st : Int), Blk w b 88 #[.slice a n c, .int .i64 nx, .int .u32 st] ∧ n ≤ 300 ∧ 0 ≤ nx ∧ nx ≤ m ∧ 0 ≤ st ∧ st ≤ 4294967295 ∧ Row8 w b R a n ∧ R ≤ w.heap.size
theorem Blk.three {w : World} {g : Nat} {t : TypeId} {x y z : Value} (h : Blk w g t #[x, y, z]) : w.cell? ⟨g, 0, none⟩ = some x ∧ w.cell? ⟨g, 1, none⟩ = some y ∧ w.cell? ⟨g, 2, none⟩ = some z ∧ ∀ i, w.frozen? ⟨g, i, none⟩ = false := ⟨h.cell 0, h.cell 1, h.cell 2, h.frozen⟩
theorem xor_ex (x y : Int) : ∃ s : Int, 0 ≤ s ∧ s ≤ 4294967295 ∧ bits .xor .u32 x y = s := ⟨_, bits_lo_u32 _ x y, bits_hi_u32 _ x y, rfl⟩
theorem grown_refl (w : World) (row : Option Nat) : w.grownBy w row := ⟨rfl, rfl, rfl, Nat.le_refl _, fun _ _ _ => rfl⟩
theorem grown_trans {w w1 w2 : World} {row : Option Nat} (h : w.grownBy w1 row) (h2 : w1.grownBy w2 row) : w.grownBy w2 row :=
  ⟨h2.os.trans h.os, h2.tape.trans h.tape, h2.output.trans h.output, Nat.le_trans h.size h2.size, fun k hk hn => (h2.block k (Nat.lt_of_lt_of_le hk h.size) hn).trans (h.block k hk hn)⟩
theorem grown_set {w wc : World} {b : Nat} (h : w.grownBy wc (some b)) (i : Nat) (u : Value) : w.grownBy (wc.setCell ⟨b, i, none⟩ u) (some b) := by
  have hb : Below (b + 1) wc wc := Below.refl _ _
  refine ⟨h.os, h.tape, h.output, ?_, ?_⟩
  · rw [World.size_setCell]; exact h.size
  · intro k hk hn
    have hne : k ≠ b := fun e => hn (by rw [e])
    exact (Below.heap_setCell wc ⟨b, i, none⟩ u k hne).trans (h.block k hk hn)
theorem grown_drew {w wc : World} {row : Option Nat} (h : w.grownBy wc row) : w.grownBy wc.drew row := ⟨h.os, h.tape, h.output, h.size, h.block⟩
theorem put2 {w wc : World} {b : Nat} {t : TypeId} {x y z : Value} (h : Blk wc b t #[x, y, z]) (g : w.grownBy wc (some b)) (u : Value) :
    ∃ w1, (wc.setCell ⟨b, 2, none⟩ u).drew = w1 ∧ Blk w1 b t #[x, y, u] ∧ w.grownBy w1 (some b) := ⟨_, rfl, h.set_ 2 u, grown_drew (grown_set g 2 u)⟩
set_option maxRecDepth 100000 in
set_option maxHeartbeats 4000000 in
theorem draw_none (b : Nat) (w : World) (a : Option Addr) (c : Nat) (nx st : Int) (hs : Blk w b 88 #[.slice a 0 c, .int .i64 nx, .int .u32 st]) :
    Calls Tryd.prog 80 #[.pointer (some ⟨b, 0, none⟩)] w fun e w' => ∃ v st' : Int, e = .returned (.int .u32 v) ∧ 0 ≤ v ∧ v ≤ 4294967295 ∧ Blk w' b 88 #[.slice a 0 c, .int .i64 nx, .int .u32 st'] ∧ 0 ≤ st' ∧ st' ≤ 4294967295 ∧ w.grownBy w' (some b) := by
  have g0 := grown_refl w (some b)
  obtain ⟨c0, c1, c2, fz⟩ := hs.three
  go_enter Tryd.func80, Tryd.ntmps80
  go_wp2
  go_region
  obtain ⟨s1, l1, u1, e1⟩ := xor_ex st (st * 8192 % 4294967296)
  rw [e1]
  obtain ⟨w1, e2, hs1, g1⟩ := put2 hs g0 (.int .u32 s1)
  rw [e2]
  clear e1 e2 c0 c1 c2 fz hs g0
  obtain ⟨c0, c1, c2, fz⟩ := hs1.three
  go_wp2
  go_region
  obtain ⟨s2, l2, u2, e1⟩ := xor_ex s1 (s1 / 131072)
  rw [e1]
  obtain ⟨w2, e2, hs2, g2⟩ := put2 hs1 g1 (.int .u32 s2)
  rw [e2]
  clear e1 e2 c0 c1 c2 fz hs1 g1 l1 u1
  obtain ⟨c0, c1, c2, fz⟩ := hs2.three
  go_wp2
  go_region
  obtain ⟨s3, l3, u3, e1⟩ := xor_ex s2 (s2 * 32 % 4294967296)
  rw [e1]
  obtain ⟨w3, e2, hs3, g3⟩ := put2 hs2 g2 (.int .u32 s3)
  rw [e2]
  clear e1 e2 c0 c1 c2 fz hs2 g2 l2 u2
  obtain ⟨c0, c1, c2, fz⟩ := hs3.three
  go_wp2
  go_ret
  exact ⟨_, s3, rfl, by omega, by omega, hs3, l3, u3, g3⟩
set_option maxRecDepth 100000 in
set_option maxHeartbeats 8000000 in
theorem draw_some (b r : Nat) (w : World) (n c : Nat) (nx st z : Int) (q : Nat) (hs : Blk w b 88 #[.slice (some ⟨r, 0, none⟩) n c, .int .i64 nx, .int .u32 st]) (hn : 0 < n) (hr : r ≠ b)
    (h0 : 0 ≤ nx) (h1 : nx ≤ 1000000000000) (hq0 : nx % (n : Int) = q) (hq : q < n) (hz : w.cell? ⟨r, q, none⟩ = some (.int .u8 z)) (hz0 : 0 ≤ z) (hz1 : z ≤ 255) :
    Calls Tryd.prog 80 #[.pointer (some ⟨b, 0, none⟩)] w fun e w' => ∃ v st' : Int, e = .returned (.int .u32 v) ∧ 0 ≤ v ∧ v ≤ 4294967295 ∧ Blk w' b 88 #[.slice (some ⟨r, 0, none⟩) n c, .int .i64 (nx + 1), .int .u32 st'] ∧ 0 ≤ st' ∧ st' ≤ 4294967295 ∧ w.grownBy w' (some b) := by
  have hq1 : Int.tmod nx (n : Int) = q := by rw [Int.tmod_eq_emod_of_nonneg h0]; exact hq0
  have hrl : r < w.heap.size := World.block_lt_of_cell? w ⟨r, q, none⟩ hz
  have g0 := grown_refl w (some b)
  have rc : ∀ {w1 : World}, w.grownBy w1 (some b) → w1.cell? ⟨r, q, none⟩ = some (.int .u8 z) := fun g => g.cell hz (by intro e; exact hr (Option.some.inj e))
  obtain ⟨c0, c1, c2, fz⟩ := hs.three
  go_enter Tryd.func80, Tryd.ntmps80
  go_wp2
  go_region
  obtain ⟨s1, l1, u1, e1⟩ := xor_ex st (st * 8192 % 4294967296)
  rw [e1]
  obtain ⟨w1, e2, hs1, g1⟩ := put2 hs g0 (.int .u32 s1)
  rw [e2]
  clear e1 e2 c0 c1 c2 fz hs g0
  obtain ⟨c0, c1, c2, fz⟩ := hs1.three
  go_wp2
  go_region
  obtain ⟨s2, l2, u2, e1⟩ := xor_ex s1 (s1 / 131072)
  rw [e1]
  obtain ⟨w2, e2, hs2, g2⟩ := put2 hs1 g1 (.int .u32 s2)
  rw [e2]
  clear e1 e2 c0 c1 c2 fz hs1 g1 l1 u1
  obtain ⟨c0, c1, c2, fz⟩ := hs2.three
  go_wp2
  go_region
  obtain ⟨s3, l3, u3, e1⟩ := xor_ex s2 (s2 * 32 % 4294967296)
  rw [e1]
  obtain ⟨w3, e2, hs3, g3⟩ := put2 hs2 g2 (.int .u32 s3)
  rw [e2]
  clear e1 e2 c0 c1 c2 fz hs2 g2 l2 u2
  obtain ⟨c0, c1, c2, fz⟩ := hs3.three
  have rz := rc g3
  go_wp2
  go_quiet (fail)
  obtain ⟨w4, e2, hs4, g4⟩ : ∃ w4, w3.drewN nq = w4 ∧ Blk w4 b 88 #[.slice (some ⟨r, 0, none⟩) n c, .int .i64 nx, .int .u32 s3] ∧ w.grownBy w4 (some b) := ⟨_, rfl, hs3, ⟨g3.os, g3.tape, g3.output, g3.size, g3.block⟩⟩
  rw [e2]
  clear e2 c0 c1 c2 fz rz hs3 g3
  obtain ⟨c0, c1, c2, fz⟩ := hs4.three
  have rz := rc g4
  go_wp2
  go_region
  obtain ⟨s5, l5, u5, e1⟩ : ∃ s : Int, 0 ≤ s ∧ s ≤ 4294967295 ∧ (s3 + (z + 1)) % 4294967296 = s := ⟨_, by omega, by omega, rfl⟩
  rw [e1]
  obtain ⟨w5, e2, hs5, g5⟩ := put2 hs4 g4 (.int .u32 s5)
  rw [e2]
  clear e1 e2 c0 c1 c2 fz rz hs4 g4
  obtain ⟨c0, c1, c2, fz⟩ := hs5.three
  go_wp2
  go_ret
  exact ⟨_, s5, rfl, by omega, by omega, hs5.set_ 1 _, l5, u5, grown_set g5 1 _⟩
theorem Row8.grown {w w' : World} {b R : Nat} {a : Option Addr} {n : Nat} (h : Row8 w b R a n) (g : w.grownBy w' (some b)) : Row8 w' b R a n := by
  rcases h with h | ⟨r, ha, hr, hl, hz⟩
  · exact .inl h
  · exact .inr ⟨r, ha, hr, hl, fun j hj => by
      obtain ⟨z, z0, z1, hc⟩ := hz j hj
      exact ⟨z, z0, z1, g.cell hc (by intro e; exact hr (Option.some.inj e))⟩⟩
theorem draw_calls (b R m : Nat) (w : World) (h : StoreAt w b R m) (hm : m ≤ 1000000000000) :
    Calls Tryd.prog 80 #[.pointer (some ⟨b, 0, none⟩)] w fun e w' => ∃ v : Int, e = .returned (.int .u32 v) ∧ 0 ≤ v ∧ v ≤ 4294967295 ∧ StoreAt w' b R (m + 1) ∧ w.grownBy w' (some b) := by
  obtain ⟨a, n, c, nx, st, hs, hn, n0, n1, s0, s1, hr, hR⟩ := h
  by_cases h0 : n = 0
  · subst h0
    refine (draw_none b w a c nx st hs).mono ?_
    rintro e w' ⟨v, st', rfl, v0, v1, hs', t0, t1, g⟩
    exact ⟨v, rfl, v0, v1, ⟨a, 0, c, nx, st', hs', by omega, n0, by omega, t0, t1, .inl rfl, Nat.le_trans hR g.size⟩, g⟩
  · rcases id hr with h | ⟨r, rfl, hrb, hl, hz⟩
    · exact absurd h h0
    obtain ⟨q, hq0⟩ : ∃ q : Nat, nx % (n : Int) = q := ⟨(nx % (n : Int)).toNat, by have := Int.emod_nonneg nx (b := (n : Int)) (by omega); omega⟩
    have hq : q < n := by have := Int.emod_lt_of_pos nx (b := (n : Int)) (by omega); omega
    obtain ⟨z, z0, z1, hc⟩ := hz q hq
    refine (draw_some b r w n c nx st z q hs (by omega) hrb n0 (by omega) hq0 hq hc z0 z1).mono ?_
    rintro e w' ⟨v, st', rfl, v0, v1, hs', t0, t1, g⟩
    exact ⟨v, rfl, v0, v1, ⟨_, n, c, nx + 1, st', hs', hn, by omega, by omega, t0, t1, hr.grown g, Nat.le_trans hR g.size⟩, g⟩
theorem tmod_in {x n : Int} (hx : 0 ≤ x) (hn : 0 < n) : ∃ r, x.tmod n = r ∧ x % n = r ∧ 0 ≤ r ∧ r < n := ⟨x % n, Int.tmod_eq_emod_of_nonneg hx, rfl, Int.emod_nonneg x (by omega), Int.emod_lt_of_pos x hn⟩
theorem StoreAt.mono {w : World} {b R m m' : Nat} (h : StoreAt w b R m) (hm : m ≤ m') : StoreAt w b R m' := by
  obtain ⟨a, n, c, nx, st, hs, hn, n0, n1, s0, s1, hr, hR⟩ := h
  exact ⟨a, n, c, nx, st, hs, hn, n0, by omega, s0, s1, hr, hR⟩
end Go.Proofs.YtlglmooknlmomaaDoor
end
