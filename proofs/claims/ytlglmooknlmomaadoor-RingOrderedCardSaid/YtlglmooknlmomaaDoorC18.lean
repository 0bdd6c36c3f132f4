import Derived.Test.YtlglmooknlmomaaDoorC9
import Derived.Test.YtlglmooknlmomaaDoorC11
import Derived.Test.YtlglmooknlmomaaDoorC15
import Derived.Test.YtlglmooknlmomaaDoorC17
set_option linter.all false
section
namespace Go.Proofs.YtlglmooknlmomaaDoor
open Go.RowKit
theorem Blk.via {X w w' : World} {g : Nat} {t : TypeId} {cs : Array Value} (h : Blk w g t cs) (hb : Below X.heap.size X w') (hX : Below w.heap.size w X) : Blk w' g t cs :=
  (h.below hX h.lt).below hb (h.below hX h.lt).lt
theorem below_via {a X w w' : World} (h : Below a.heap.size a w) (hb : Below X.heap.size X w') (hX : Below w.heap.size w X) : Below a.heap.size a w' := by
  have h1 := h.size
  have h2 := hX.size
  exact (h.trans (hX.mono h1)).trans (hb.mono (Nat.le_trans h1 h2))
theorem StoreAt.below {w w' : World} {b R m : Nat} (h : StoreAt w b R m) (hb : Below w.heap.size w w') : StoreAt w' b R m := by
  have hl := h.lt
  obtain ⟨a, n, c, nx, st, hs, hn, n0, n1, s0, s1, hr, hR⟩ := h
  exact ⟨a, n, c, nx, st, hs.below hb hl, hn, n0, n1, s0, s1, hr.grown (b := b) ⟨hb.os, hb.tape, hb.output, hb.size, fun k hk _ => hb.block k hk⟩, Nat.le_trans hR hb.size⟩
theorem StoreAt.via {X w w' : World} {b R m : Nat} (h : StoreAt w b R m) (hb : Below X.heap.size X w') (hX : Below w.heap.size w X) : StoreAt w' b R m := (h.below hX).below hb
theorem Tabs.via {a w : World} (h : Tabs a) (hb : Below a.heap.size a w) : Tabs w := h.below hb
theorem Blk.grew {X w : World} {g : Nat} {t : TypeId} {cs : Array Value} (h : Blk w g t cs) (hX : Grew X w) : Blk X g t cs := ((hX.get h.lt).1).trans h
theorem Blk.freshX {X w : World} {t : TypeId} {cs : Array Value} (hX : X.heap = w.heap.push (.cells cs t)) : Blk X w.heap.size t cs := by
  show X.heap[w.heap.size]? = _
  rw [hX]; simp
theorem Grew.below {X w : World} (hX : Grew X w) : Below w.heap.size w X := by
  have hs : w.heap.size ≤ X.heap.size := by rcases hX.1 with e | ⟨o, e⟩ <;> rw [e] <;> simp
  exact ⟨hX.2.1, hX.2.2.1, hX.2.2.2, hs, fun k hk => (hX.get hk).1⟩
theorem StoreAt.grew {X w : World} {b R m : Nat} (h : StoreAt w b R m) (hX : Grew X w) : StoreAt X b R m := h.below hX.below
theorem StoreAt.far5 {w : World} {b R m g : Nat} (h : StoreAt w b R m) (hg : g ≠ b) (hR : R ≤ g) (v0 v1 v2 v3 v4 : Value) :
    StoreAt (((((w.setCell ⟨g, 0, none⟩ v0).setCell ⟨g, 1, none⟩ v1).setCell ⟨g, 2, none⟩ v2).setCell ⟨g, 3, none⟩ v3).setCell ⟨g, 4, none⟩ v4) b R m := ((((h.far hg hR 0 v0).far hg hR 1 v1).far hg hR 2 v2).far hg hR 3 v3).far hg hR 4 v4
theorem below_grown' {a X w w' : World} {b : Nat} (h : Below a.heap.size a w) (hX : Grew X w) (hg : X.grownBy w' (some b)) (hb : a.heap.size ≤ b) : Below a.heap.size a w' := by
  have h1 := h.size
  have hs := hX.below.size
  exact (h.trans (hX.below.mono h1)).grown hg (by omega) (by intro k hk; injection hk with hk; omega)
theorem Blk.newb {w w' : World} {t : TypeId} {cs : Array Value} (hb : Below (w.alloc (.cells cs t)).heap.size (w.alloc (.cells cs t)) w') : Blk w' w.heap.size t cs := (Blk.new w t cs).below hb (by simp)
theorem Blk.new20 {w w' : World} {t t' : TypeId} {cs cs' : Array Value} (hb : Below ((w.alloc (.cells cs t)).alloc (.cells cs' t')).heap.size ((w.alloc (.cells cs t)).alloc (.cells cs' t')) w') : Blk w' w.heap.size t cs :=
  ((Blk.new w t cs).alloc _).below hb ((Blk.new w t cs).alloc _).lt
theorem Blk.new21 {w w' : World} {t t' : TypeId} {cs cs' : Array Value} (hb : Below ((w.alloc (.cells cs t)).alloc (.cells cs' t')).heap.size ((w.alloc (.cells cs t)).alloc (.cells cs' t')) w') : Blk w' (w.heap.size + 1) t' cs' :=
  Blk.below (Blk.at_ (w.alloc (.cells cs t)) t' cs' (World.size_alloc _ _)) hb (by simp)
theorem Blk.new30 {w w' : World} {t t' t'' : TypeId} {cs cs' cs'' : Array Value} (hb : Below (((w.alloc (.cells cs t)).alloc (.cells cs' t')).alloc (.cells cs'' t'')).heap.size (((w.alloc (.cells cs t)).alloc (.cells cs' t')).alloc (.cells cs'' t'')) w') : Blk w' w.heap.size t cs :=
  (((Blk.new w t cs).alloc _).alloc _).below hb (((Blk.new w t cs).alloc _).alloc _).lt
theorem Blk.new31 {w w' : World} {t t' t'' : TypeId} {cs cs' cs'' : Array Value} (hb : Below (((w.alloc (.cells cs t)).alloc (.cells cs' t')).alloc (.cells cs'' t'')).heap.size (((w.alloc (.cells cs t)).alloc (.cells cs' t')).alloc (.cells cs'' t'')) w') : Blk w' (w.heap.size + 1) t' cs' :=
  Blk.below ((Blk.at_ (w.alloc (.cells cs t)) t' cs' (World.size_alloc _ _)).alloc _) hb (by simp)
theorem Blk.new32 {w w' : World} {t t' t'' : TypeId} {cs cs' cs'' : Array Value} (hb : Below (((w.alloc (.cells cs t)).alloc (.cells cs' t')).alloc (.cells cs'' t'')).heap.size (((w.alloc (.cells cs t)).alloc (.cells cs' t')).alloc (.cells cs'' t'')) w') : Blk w' (w.heap.size + 1 + 1) t'' cs'' :=
  Blk.below (Blk.at_ ((w.alloc (.cells cs t)).alloc (.cells cs' t')) t'' cs'' (by simp)) hb (by simp)
theorem fives1 {w : World} {t : TypeId} {g0 : Nat} {x00 x01 x02 x03 x04 : Value} (h0 : Blk w g0 t #[x00, x01, x02, x03, x04]) :
    w.cell? ⟨g0, 0, none⟩ = some x00 ∧ w.cell? ⟨g0, 1, none⟩ = some x01 ∧ w.cell? ⟨g0, 2, none⟩ = some x02 ∧ w.cell? ⟨g0, 3, none⟩ = some x03 ∧ w.cell? ⟨g0, 4, none⟩ = some x04 :=
  ⟨h0.cell 0, h0.cell 1, h0.cell 2, h0.cell 3, h0.cell 4⟩
theorem fives2 {w : World} {t : TypeId} {g0 g1 : Nat} {x00 x01 x02 x03 x04 x10 x11 x12 x13 x14 : Value} (h0 : Blk w g0 t #[x00, x01, x02, x03, x04]) (h1 : Blk w g1 t #[x10, x11, x12, x13, x14]) :
    w.cell? ⟨g0, 0, none⟩ = some x00 ∧ w.cell? ⟨g0, 1, none⟩ = some x01 ∧ w.cell? ⟨g0, 2, none⟩ = some x02 ∧ w.cell? ⟨g0, 3, none⟩ = some x03 ∧ w.cell? ⟨g0, 4, none⟩ = some x04 ∧ w.cell? ⟨g1, 0, none⟩ = some x10 ∧ w.cell? ⟨g1, 1, none⟩ = some x11 ∧ w.cell? ⟨g1, 2, none⟩ = some x12 ∧ w.cell? ⟨g1, 3, none⟩ = some x13 ∧ w.cell? ⟨g1, 4, none⟩ = some x14 :=
  ⟨h0.cell 0, h0.cell 1, h0.cell 2, h0.cell 3, h0.cell 4, h1.cell 0, h1.cell 1, h1.cell 2, h1.cell 3, h1.cell 4⟩
theorem fives3 {w : World} {t : TypeId} {g0 g1 g2 : Nat} {x00 x01 x02 x03 x04 x10 x11 x12 x13 x14 x20 x21 x22 x23 x24 : Value} (h0 : Blk w g0 t #[x00, x01, x02, x03, x04]) (h1 : Blk w g1 t #[x10, x11, x12, x13, x14]) (h2 : Blk w g2 t #[x20, x21, x22, x23, x24]) :
    w.cell? ⟨g0, 0, none⟩ = some x00 ∧ w.cell? ⟨g0, 1, none⟩ = some x01 ∧ w.cell? ⟨g0, 2, none⟩ = some x02 ∧ w.cell? ⟨g0, 3, none⟩ = some x03 ∧ w.cell? ⟨g0, 4, none⟩ = some x04 ∧ w.cell? ⟨g1, 0, none⟩ = some x10 ∧ w.cell? ⟨g1, 1, none⟩ = some x11 ∧ w.cell? ⟨g1, 2, none⟩ = some x12 ∧ w.cell? ⟨g1, 3, none⟩ = some x13 ∧ w.cell? ⟨g1, 4, none⟩ = some x14 ∧ w.cell? ⟨g2, 0, none⟩ = some x20 ∧ w.cell? ⟨g2, 1, none⟩ = some x21 ∧ w.cell? ⟨g2, 2, none⟩ = some x22 ∧ w.cell? ⟨g2, 3, none⟩ = some x23 ∧ w.cell? ⟨g2, 4, none⟩ = some x24 :=
  ⟨h0.cell 0, h0.cell 1, h0.cell 2, h0.cell 3, h0.cell 4, h1.cell 0, h1.cell 1, h1.cell 2, h1.cell 3, h1.cell 4, h2.cell 0, h2.cell 1, h2.cell 2, h2.cell 3, h2.cell 4⟩
theorem fives4 {w : World} {t : TypeId} {g0 g1 g2 g3 : Nat} {x00 x01 x02 x03 x04 x10 x11 x12 x13 x14 x20 x21 x22 x23 x24 x30 x31 x32 x33 x34 : Value} (h0 : Blk w g0 t #[x00, x01, x02, x03, x04]) (h1 : Blk w g1 t #[x10, x11, x12, x13, x14]) (h2 : Blk w g2 t #[x20, x21, x22, x23, x24]) (h3 : Blk w g3 t #[x30, x31, x32, x33, x34]) :
    w.cell? ⟨g0, 0, none⟩ = some x00 ∧ w.cell? ⟨g0, 1, none⟩ = some x01 ∧ w.cell? ⟨g0, 2, none⟩ = some x02 ∧ w.cell? ⟨g0, 3, none⟩ = some x03 ∧ w.cell? ⟨g0, 4, none⟩ = some x04 ∧ w.cell? ⟨g1, 0, none⟩ = some x10 ∧ w.cell? ⟨g1, 1, none⟩ = some x11 ∧ w.cell? ⟨g1, 2, none⟩ = some x12 ∧ w.cell? ⟨g1, 3, none⟩ = some x13 ∧ w.cell? ⟨g1, 4, none⟩ = some x14 ∧ w.cell? ⟨g2, 0, none⟩ = some x20 ∧ w.cell? ⟨g2, 1, none⟩ = some x21 ∧ w.cell? ⟨g2, 2, none⟩ = some x22 ∧ w.cell? ⟨g2, 3, none⟩ = some x23 ∧ w.cell? ⟨g2, 4, none⟩ = some x24 ∧ w.cell? ⟨g3, 0, none⟩ = some x30 ∧ w.cell? ⟨g3, 1, none⟩ = some x31 ∧ w.cell? ⟨g3, 2, none⟩ = some x32 ∧ w.cell? ⟨g3, 3, none⟩ = some x33 ∧ w.cell? ⟨g3, 4, none⟩ = some x34 :=
  ⟨h0.cell 0, h0.cell 1, h0.cell 2, h0.cell 3, h0.cell 4, h1.cell 0, h1.cell 1, h1.cell 2, h1.cell 3, h1.cell 4, h2.cell 0, h2.cell 1, h2.cell 2, h2.cell 3, h2.cell 4, h3.cell 0, h3.cell 1, h3.cell 2, h3.cell 3, h3.cell 4⟩
theorem fives5 {w : World} {t : TypeId} {g0 g1 g2 g3 g4 : Nat} {x00 x01 x02 x03 x04 x10 x11 x12 x13 x14 x20 x21 x22 x23 x24 x30 x31 x32 x33 x34 x40 x41 x42 x43 x44 : Value} (h0 : Blk w g0 t #[x00, x01, x02, x03, x04]) (h1 : Blk w g1 t #[x10, x11, x12, x13, x14]) (h2 : Blk w g2 t #[x20, x21, x22, x23, x24]) (h3 : Blk w g3 t #[x30, x31, x32, x33, x34]) (h4 : Blk w g4 t #[x40, x41, x42, x43, x44]) :
    w.cell? ⟨g0, 0, none⟩ = some x00 ∧ w.cell? ⟨g0, 1, none⟩ = some x01 ∧ w.cell? ⟨g0, 2, none⟩ = some x02 ∧ w.cell? ⟨g0, 3, none⟩ = some x03 ∧ w.cell? ⟨g0, 4, none⟩ = some x04 ∧ w.cell? ⟨g1, 0, none⟩ = some x10 ∧ w.cell? ⟨g1, 1, none⟩ = some x11 ∧ w.cell? ⟨g1, 2, none⟩ = some x12 ∧ w.cell? ⟨g1, 3, none⟩ = some x13 ∧ w.cell? ⟨g1, 4, none⟩ = some x14 ∧ w.cell? ⟨g2, 0, none⟩ = some x20 ∧ w.cell? ⟨g2, 1, none⟩ = some x21 ∧ w.cell? ⟨g2, 2, none⟩ = some x22 ∧ w.cell? ⟨g2, 3, none⟩ = some x23 ∧ w.cell? ⟨g2, 4, none⟩ = some x24 ∧ w.cell? ⟨g3, 0, none⟩ = some x30 ∧ w.cell? ⟨g3, 1, none⟩ = some x31 ∧ w.cell? ⟨g3, 2, none⟩ = some x32 ∧ w.cell? ⟨g3, 3, none⟩ = some x33 ∧ w.cell? ⟨g3, 4, none⟩ = some x34 ∧ w.cell? ⟨g4, 0, none⟩ = some x40 ∧ w.cell? ⟨g4, 1, none⟩ = some x41 ∧ w.cell? ⟨g4, 2, none⟩ = some x42 ∧ w.cell? ⟨g4, 3, none⟩ = some x43 ∧ w.cell? ⟨g4, 4, none⟩ = some x44 :=
  ⟨h0.cell 0, h0.cell 1, h0.cell 2, h0.cell 3, h0.cell 4, h1.cell 0, h1.cell 1, h1.cell 2, h1.cell 3, h1.cell 4, h2.cell 0, h2.cell 1, h2.cell 2, h2.cell 3, h2.cell 4, h3.cell 0, h3.cell 1, h3.cell 2, h3.cell 3, h3.cell 4, h4.cell 0, h4.cell 1, h4.cell 2, h4.cell 3, h4.cell 4⟩
theorem fives6 {w : World} {t : TypeId} {g0 g1 g2 g3 g4 g5 : Nat} {x00 x01 x02 x03 x04 x10 x11 x12 x13 x14 x20 x21 x22 x23 x24 x30 x31 x32 x33 x34 x40 x41 x42 x43 x44 x50 x51 x52 x53 x54 : Value} (h0 : Blk w g0 t #[x00, x01, x02, x03, x04]) (h1 : Blk w g1 t #[x10, x11, x12, x13, x14]) (h2 : Blk w g2 t #[x20, x21, x22, x23, x24]) (h3 : Blk w g3 t #[x30, x31, x32, x33, x34]) (h4 : Blk w g4 t #[x40, x41, x42, x43, x44]) (h5 : Blk w g5 t #[x50, x51, x52, x53, x54]) :
    w.cell? ⟨g0, 0, none⟩ = some x00 ∧ w.cell? ⟨g0, 1, none⟩ = some x01 ∧ w.cell? ⟨g0, 2, none⟩ = some x02 ∧ w.cell? ⟨g0, 3, none⟩ = some x03 ∧ w.cell? ⟨g0, 4, none⟩ = some x04 ∧ w.cell? ⟨g1, 0, none⟩ = some x10 ∧ w.cell? ⟨g1, 1, none⟩ = some x11 ∧ w.cell? ⟨g1, 2, none⟩ = some x12 ∧ w.cell? ⟨g1, 3, none⟩ = some x13 ∧ w.cell? ⟨g1, 4, none⟩ = some x14 ∧ w.cell? ⟨g2, 0, none⟩ = some x20 ∧ w.cell? ⟨g2, 1, none⟩ = some x21 ∧ w.cell? ⟨g2, 2, none⟩ = some x22 ∧ w.cell? ⟨g2, 3, none⟩ = some x23 ∧ w.cell? ⟨g2, 4, none⟩ = some x24 ∧ w.cell? ⟨g3, 0, none⟩ = some x30 ∧ w.cell? ⟨g3, 1, none⟩ = some x31 ∧ w.cell? ⟨g3, 2, none⟩ = some x32 ∧ w.cell? ⟨g3, 3, none⟩ = some x33 ∧ w.cell? ⟨g3, 4, none⟩ = some x34 ∧ w.cell? ⟨g4, 0, none⟩ = some x40 ∧ w.cell? ⟨g4, 1, none⟩ = some x41 ∧ w.cell? ⟨g4, 2, none⟩ = some x42 ∧ w.cell? ⟨g4, 3, none⟩ = some x43 ∧ w.cell? ⟨g4, 4, none⟩ = some x44 ∧ w.cell? ⟨g5, 0, none⟩ = some x50 ∧ w.cell? ⟨g5, 1, none⟩ = some x51 ∧ w.cell? ⟨g5, 2, none⟩ = some x52 ∧ w.cell? ⟨g5, 3, none⟩ = some x53 ∧ w.cell? ⟨g5, 4, none⟩ = some x54 :=
  ⟨h0.cell 0, h0.cell 1, h0.cell 2, h0.cell 3, h0.cell 4, h1.cell 0, h1.cell 1, h1.cell 2, h1.cell 3, h1.cell 4, h2.cell 0, h2.cell 1, h2.cell 2, h2.cell 3, h2.cell 4, h3.cell 0, h3.cell 1, h3.cell 2, h3.cell 3, h3.cell 4, h4.cell 0, h4.cell 1, h4.cell 2, h4.cell 3, h4.cell 4, h5.cell 0, h5.cell 1, h5.cell 2, h5.cell 3, h5.cell 4⟩
theorem fives7 {w : World} {t : TypeId} {g0 g1 g2 g3 g4 g5 g6 : Nat} {x00 x01 x02 x03 x04 x10 x11 x12 x13 x14 x20 x21 x22 x23 x24 x30 x31 x32 x33 x34 x40 x41 x42 x43 x44 x50 x51 x52 x53 x54 x60 x61 x62 x63 x64 : Value} (h0 : Blk w g0 t #[x00, x01, x02, x03, x04]) (h1 : Blk w g1 t #[x10, x11, x12, x13, x14]) (h2 : Blk w g2 t #[x20, x21, x22, x23, x24]) (h3 : Blk w g3 t #[x30, x31, x32, x33, x34]) (h4 : Blk w g4 t #[x40, x41, x42, x43, x44]) (h5 : Blk w g5 t #[x50, x51, x52, x53, x54]) (h6 : Blk w g6 t #[x60, x61, x62, x63, x64]) :
    w.cell? ⟨g0, 0, none⟩ = some x00 ∧ w.cell? ⟨g0, 1, none⟩ = some x01 ∧ w.cell? ⟨g0, 2, none⟩ = some x02 ∧ w.cell? ⟨g0, 3, none⟩ = some x03 ∧ w.cell? ⟨g0, 4, none⟩ = some x04 ∧ w.cell? ⟨g1, 0, none⟩ = some x10 ∧ w.cell? ⟨g1, 1, none⟩ = some x11 ∧ w.cell? ⟨g1, 2, none⟩ = some x12 ∧ w.cell? ⟨g1, 3, none⟩ = some x13 ∧ w.cell? ⟨g1, 4, none⟩ = some x14 ∧ w.cell? ⟨g2, 0, none⟩ = some x20 ∧ w.cell? ⟨g2, 1, none⟩ = some x21 ∧ w.cell? ⟨g2, 2, none⟩ = some x22 ∧ w.cell? ⟨g2, 3, none⟩ = some x23 ∧ w.cell? ⟨g2, 4, none⟩ = some x24 ∧ w.cell? ⟨g3, 0, none⟩ = some x30 ∧ w.cell? ⟨g3, 1, none⟩ = some x31 ∧ w.cell? ⟨g3, 2, none⟩ = some x32 ∧ w.cell? ⟨g3, 3, none⟩ = some x33 ∧ w.cell? ⟨g3, 4, none⟩ = some x34 ∧ w.cell? ⟨g4, 0, none⟩ = some x40 ∧ w.cell? ⟨g4, 1, none⟩ = some x41 ∧ w.cell? ⟨g4, 2, none⟩ = some x42 ∧ w.cell? ⟨g4, 3, none⟩ = some x43 ∧ w.cell? ⟨g4, 4, none⟩ = some x44 ∧ w.cell? ⟨g5, 0, none⟩ = some x50 ∧ w.cell? ⟨g5, 1, none⟩ = some x51 ∧ w.cell? ⟨g5, 2, none⟩ = some x52 ∧ w.cell? ⟨g5, 3, none⟩ = some x53 ∧ w.cell? ⟨g5, 4, none⟩ = some x54 ∧ w.cell? ⟨g6, 0, none⟩ = some x60 ∧ w.cell? ⟨g6, 1, none⟩ = some x61 ∧ w.cell? ⟨g6, 2, none⟩ = some x62 ∧ w.cell? ⟨g6, 3, none⟩ = some x63 ∧ w.cell? ⟨g6, 4, none⟩ = some x64 :=
  ⟨h0.cell 0, h0.cell 1, h0.cell 2, h0.cell 3, h0.cell 4, h1.cell 0, h1.cell 1, h1.cell 2, h1.cell 3, h1.cell 4, h2.cell 0, h2.cell 1, h2.cell 2, h2.cell 3, h2.cell 4, h3.cell 0, h3.cell 1, h3.cell 2, h3.cell 3, h3.cell 4, h4.cell 0, h4.cell 1, h4.cell 2, h4.cell 3, h4.cell 4, h5.cell 0, h5.cell 1, h5.cell 2, h5.cell 3, h5.cell 4, h6.cell 0, h6.cell 1, h6.cell 2, h6.cell 3, h6.cell 4⟩
section
variable (w : World)
theorem Least_ok {x y : Nm} {er : Int} (h : sLeast x = (y, er)) :
    Calls Tryd.prog 22 #[.agg #[.int .i64 x.p.a, .int .i64 x.p.b, .int .i64 x.p.c, .int .i64 x.p.d, .int .i64 x.k]] w fun e w' => e = .returned (.tuple #[.agg #[.int .i64 y.p.a, .int .i64 y.p.b, .int .i64 y.p.c, .int .i64 y.p.d, .int .i64 y.k], .int .i64 er]) ∧ Below w.heap.size w w' := by
  refine (Least_calls x w).mono ?_
  rintro e w' ⟨y', er', rfl, hy, hb⟩
  rw [h] at hy
  injection hy with h1 h2
  subst h1 h2
  exact ⟨rfl, hb⟩
theorem Add_ok {x z y : Nm} {er : Int} (h : sAdd x z = (y, er)) :
    Calls Tryd.prog 30 #[.agg #[.int .i64 x.p.a, .int .i64 x.p.b, .int .i64 x.p.c, .int .i64 x.p.d, .int .i64 x.k], .agg #[.int .i64 z.p.a, .int .i64 z.p.b, .int .i64 z.p.c, .int .i64 z.p.d, .int .i64 z.k]] w fun e w' => e = .returned (.tuple #[.agg #[.int .i64 y.p.a, .int .i64 y.p.b, .int .i64 y.p.c, .int .i64 y.p.d, .int .i64 y.k], .int .i64 er]) ∧ Below w.heap.size w w' := by
  refine (Add_calls x z w).mono ?_
  rintro e w' ⟨y', er', rfl, hy, hb⟩
  rw [h] at hy
  injection hy with h1 h2
  subst h1 h2
  exact ⟨rfl, hb⟩
theorem Sub_ok {x z y : Nm} {er : Int} (h : sSub x z = (y, er)) :
    Calls Tryd.prog 32 #[.agg #[.int .i64 x.p.a, .int .i64 x.p.b, .int .i64 x.p.c, .int .i64 x.p.d, .int .i64 x.k], .agg #[.int .i64 z.p.a, .int .i64 z.p.b, .int .i64 z.p.c, .int .i64 z.p.d, .int .i64 z.k]] w fun e w' => e = .returned (.tuple #[.agg #[.int .i64 y.p.a, .int .i64 y.p.b, .int .i64 y.p.c, .int .i64 y.p.d, .int .i64 y.k], .int .i64 er]) ∧ Below w.heap.size w w' := by
  refine (Sub_calls x z w).mono ?_
  rintro e w' ⟨y', er', rfl, hy, hb⟩
  rw [h] at hy
  injection hy with h1 h2
  subst h1 h2
  exact ⟨rfl, hb⟩
theorem Mul_ok {x z y : Nm} {er : Int} (h : sMul x z = (y, er)) :
    Calls Tryd.prog 31 #[.agg #[.int .i64 x.p.a, .int .i64 x.p.b, .int .i64 x.p.c, .int .i64 x.p.d, .int .i64 x.k], .agg #[.int .i64 z.p.a, .int .i64 z.p.b, .int .i64 z.p.c, .int .i64 z.p.d, .int .i64 z.k]] w fun e w' => e = .returned (.tuple #[.agg #[.int .i64 y.p.a, .int .i64 y.p.b, .int .i64 y.p.c, .int .i64 y.p.d, .int .i64 y.k], .int .i64 er]) ∧ Below w.heap.size w w' := by
  refine (Mul_calls x z w).mono ?_
  rintro e w' ⟨y', er', rfl, hy, hb⟩
  rw [h] at hy
  injection hy with h1 h2
  subst h1 h2
  exact ⟨rfl, hb⟩
theorem Conj_ok {x y : Nm} {er : Int} (h : sConj x = (y, er)) :
    Calls Tryd.prog 28 #[.agg #[.int .i64 x.p.a, .int .i64 x.p.b, .int .i64 x.p.c, .int .i64 x.p.d, .int .i64 x.k]] w fun e w' => e = .returned (.tuple #[.agg #[.int .i64 y.p.a, .int .i64 y.p.b, .int .i64 y.p.c, .int .i64 y.p.d, .int .i64 y.k], .int .i64 er]) ∧ Below w.heap.size w w' := by
  refine (Conj_calls x w).mono ?_
  rintro e w' ⟨y', er', rfl, hy, hb⟩
  rw [h] at hy
  injection hy with h1 h2
  subst h1 h2
  exact ⟨rfl, hb⟩
theorem Dot_ok {x y : Nm} {er : Int} (h : sDot x = (y, er)) :
    Calls Tryd.prog 29 #[.agg #[.int .i64 x.p.a, .int .i64 x.p.b, .int .i64 x.p.c, .int .i64 x.p.d, .int .i64 x.k]] w fun e w' => e = .returned (.tuple #[.agg #[.int .i64 y.p.a, .int .i64 y.p.b, .int .i64 y.p.c, .int .i64 y.p.d, .int .i64 y.k], .int .i64 er]) ∧ Below w.heap.size w w' := by
  refine (Dot_calls x w).mono ?_
  rintro e w' ⟨y', er', rfl, hy, hb⟩
  rw [h] at hy
  injection hy with h1 h2
  subst h1 h2
  exact ⟨rfl, hb⟩
theorem Norm_ok {x y : Nm} {er : Int} (h : sNorm x = (y, er)) :
    Calls Tryd.prog 33 #[.agg #[.int .i64 x.p.a, .int .i64 x.p.b, .int .i64 x.p.c, .int .i64 x.p.d, .int .i64 x.k]] w fun e w' => e = .returned (.tuple #[.agg #[.int .i64 y.p.a, .int .i64 y.p.b, .int .i64 y.p.c, .int .i64 y.p.d, .int .i64 y.k], .int .i64 er]) ∧ Below w.heap.size w w' := by
  refine (Norm_calls x w).mono ?_
  rintro e w' ⟨y', er', rfl, hy, hb⟩
  rw [h] at hy
  injection hy with h1 h2
  subst h1 h2
  exact ⟨rfl, hb⟩
theorem Divide_ok {x z y : Nm} {er : Int} (h : sDivide x z = (y, er)) :
    Calls Tryd.prog 14 #[.agg #[.int .i64 x.p.a, .int .i64 x.p.b, .int .i64 x.p.c, .int .i64 x.p.d, .int .i64 x.k], .agg #[.int .i64 z.p.a, .int .i64 z.p.b, .int .i64 z.p.c, .int .i64 z.p.d, .int .i64 z.k]] w fun e w' => e = .returned (.tuple #[.agg #[.int .i64 y.p.a, .int .i64 y.p.b, .int .i64 y.p.c, .int .i64 y.p.d, .int .i64 y.k], .int .i64 er]) ∧ Below w.heap.size w w' := by
  refine (Divide_calls x z w).mono ?_
  rintro e w' ⟨y', er', rfl, hy, hb⟩
  rw [h] at hy
  injection hy with h1 h2
  subst h1 h2
  exact ⟨rfl, hb⟩
theorem Same_ok {x z : Nm} {r : Bool} {er : Int} (h : sSame x z = (r, er)) :
    Calls Tryd.prog 23 #[.agg #[.int .i64 x.p.a, .int .i64 x.p.b, .int .i64 x.p.c, .int .i64 x.p.d, .int .i64 x.k], .agg #[.int .i64 z.p.a, .int .i64 z.p.b, .int .i64 z.p.c, .int .i64 z.p.d, .int .i64 z.k]] w fun e w' => e = .returned (.tuple #[.bool r, .int .i64 er]) ∧ Below w.heap.size w w' := by
  refine (Same_calls x z w).mono ?_
  rintro e w' ⟨y', er', rfl, hy, hb⟩
  rw [h] at hy
  injection hy with h1 h2
  subst h1 h2
  exact ⟨rfl, hb⟩
theorem Real_ok {x : Nm} {r : Bool} {er : Int} (h : sReal x = (r, er)) :
    Calls Tryd.prog 34 #[.agg #[.int .i64 x.p.a, .int .i64 x.p.b, .int .i64 x.p.c, .int .i64 x.p.d, .int .i64 x.k]] w fun e w' => e = .returned (.tuple #[.bool r, .int .i64 er]) ∧ Below w.heap.size w w' := by
  refine (Real_calls x w).mono ?_
  rintro e w' ⟨y', er', rfl, hy, hb⟩
  rw [h] at hy
  injection hy with h1 h2
  subst h1 h2
  exact ⟨rfl, hb⟩
theorem Less_ok {x z : Nm} {r : Bool} {er : Int} (h : sLess x z = (r, er)) :
    Calls Tryd.prog 35 #[.agg #[.int .i64 x.p.a, .int .i64 x.p.b, .int .i64 x.p.c, .int .i64 x.p.d, .int .i64 x.k], .agg #[.int .i64 z.p.a, .int .i64 z.p.b, .int .i64 z.p.c, .int .i64 z.p.d, .int .i64 z.k]] w fun e w' => e = .returned (.tuple #[.bool r, .int .i64 er]) ∧ Below w.heap.size w w' := by
  refine (Less_calls x z w).mono ?_
  rintro e w' ⟨y', er', rfl, hy, hb⟩
  rw [h] at hy
  injection hy with h1 h2
  subst h1 h2
  exact ⟨rfl, hb⟩
theorem Phase_ok {x z : Nm} {r : Int} {er : Int} (h : sPhase x z = (r, er)) :
    Calls Tryd.prog 40 #[.agg #[.int .i64 x.p.a, .int .i64 x.p.b, .int .i64 x.p.c, .int .i64 x.p.d, .int .i64 x.k], .agg #[.int .i64 z.p.a, .int .i64 z.p.b, .int .i64 z.p.c, .int .i64 z.p.d, .int .i64 z.k]] w fun e w' => e = .returned (.tuple #[.int .i64 r, .int .i64 er]) ∧ Below w.heap.size w w' := by
  refine (Phase_calls x z w).mono ?_
  rintro e w' ⟨y', er', rfl, hy, hb⟩
  rw [h] at hy
  injection hy with h1 h2
  subst h1 h2
  exact ⟨rfl, hb⟩
theorem Sum2_ok {x z y : Nm} {er : Int} (h : sSum [x, z] = (y, er)) (b : Nat) (hb : Blk w b 23 #[.int .i64 x.p.a, .int .i64 x.p.b, .int .i64 x.p.c, .int .i64 x.p.d, .int .i64 x.k, .int .i64 z.p.a, .int .i64 z.p.b, .int .i64 z.p.c, .int .i64 z.p.d, .int .i64 z.k]) :
    Calls Tryd.prog 42 #[.slice (some ⟨b, 0, none⟩) 2 2] w fun e w' => e = .returned (.tuple #[.agg #[.int .i64 y.p.a, .int .i64 y.p.b, .int .i64 y.p.c, .int .i64 y.p.d, .int .i64 y.k], .int .i64 er]) ∧ Below w.heap.size w w' := by
  refine (Sum_calls [x, z] b 0 2 (by simp) w (fun j v hv => ?_)).mono ?_
  · rw [Nat.zero_add, hb.cell]
    have e : (#[.int .i64 x.p.a, .int .i64 x.p.b, .int .i64 x.p.c, .int .i64 x.p.d, .int .i64 x.k, .int .i64 z.p.a, .int .i64 z.p.b, .int .i64 z.p.c, .int .i64 z.p.d, .int .i64 z.k] : Array Value)[j]? = (flatV [x, z])[j]? := by simp [flatV]
    rw [e]; exact hv
  · rintro e w' ⟨y', er', rfl, hy, hb⟩
    rw [h] at hy
    injection hy with h1 h2
    subst h1 h2
    exact ⟨rfl, hb⟩
theorem Print_ok {x : Nm} {s : List UInt8} {er : Int} (h : sPrint x = (s, er)) (ht : Tabs w) :
    Calls Tryd.prog 18 #[.agg #[.int .i64 x.p.a, .int .i64 x.p.b, .int .i64 x.p.c, .int .i64 x.p.d, .int .i64 x.k]] w fun e w' => e = .returned (.tuple #[.string (bs s), .int .i64 er]) ∧ Below w.heap.size w w' := by
  refine (Print_calls x w ht).mono ?_
  rintro e w' ⟨y', er', rfl, hy, hb⟩
  rw [h] at hy
  injection hy with h1 h2
  subst h1 h2
  exact ⟨rfl, hb⟩
theorem Parse_ok {l : List UInt8} {y : Nm} {er : Int} (h : sParse l = (y, er)) (hl : l.length ≤ 1000) (ht : Tabs w) :
    Calls Tryd.prog 19 #[.string (bs l)] w fun e w' => e = .returned (.tuple #[.agg #[.int .i64 y.p.a, .int .i64 y.p.b, .int .i64 y.p.c, .int .i64 y.p.d, .int .i64 y.k], .int .i64 er]) ∧ Below w.heap.size w w' := by
  refine (Parse_calls l hl w ht).mono ?_
  rintro e w' ⟨y', er', rfl, hy, hb⟩
  rw [h] at hy
  injection hy with h1 h2
  subst h1 h2
  exact ⟨rfl, hb⟩
end
set_option maxHeartbeats 1000000 in
theorem num5 (a b c d k : Int) (w : World) : Calls Tryd.prog 37 #[.int .i64 a, .int .i64 b, .int .i64 c, .int .i64 d, .int .i64 k] w fun e w' => e = .returned (.agg #[.int .i64 a, .int .i64 b, .int .i64 c, .int .i64 d, .int .i64 k]) ∧ Below w.heap.size w w' := by
  go_enter Tryd.func37, Tryd.ntmps37
  go_wp2
  exact bodyPost_ret (v := .agg #[.int .i64 a, .int .i64 b, .int .i64 c, .int .i64 d, .int .i64 k]) (by simp [results, Tryd.results37, go_sem]) rfl ⟨rfl, below1 _ _⟩
theorem omega_ok (n : Int) (i : Fin 8) (h : (n % 8).toNat = i.val) (w : World) : Calls Tryd.prog 36 #[.int .i64 n] w fun e w' => e = .returned (.agg #[.int .i64 (omP i.val).a, .int .i64 (omP i.val).b, .int .i64 (omP i.val).c, .int .i64 (omP i.val).d, .int .i64 0]) ∧ Below w.heap.size w w' := by
  have := Omega_calls n w
  rw [h] at this
  exact this
theorem fin8 (n : Int) : ∃ i : Fin 8, (n % 8).toNat = i.val := ⟨⟨(n % 8).toNat, by omega⟩, rfl⟩
end Go.Proofs.YtlglmooknlmomaaDoor
end
