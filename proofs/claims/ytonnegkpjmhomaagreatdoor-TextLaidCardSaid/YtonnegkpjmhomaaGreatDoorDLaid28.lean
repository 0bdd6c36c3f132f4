import Derived.Test.YtonnegkpjmhomaaGreatDoorDLaid10
import Derived.Test.YtonnegkpjmhomaaGreatDoorDLaid11
import Derived.Test.YtonnegkpjmhomaaGreatDoorDLaid19
import Derived.Test.YtonnegkpjmhomaaGreatDoorDLaid27
set_option linter.all false
section
set_option linter.all false
namespace Go.Proofs.YtonnegkpjmhomaaGreatDoor
open Go.RowKit
theorem BytesAt.below {w w' : World} {a : Option Addr} {n : Nat} (h : BytesAt w a n) (hb : Below w.heap.size w w') : BytesAt w' a n := by
  rcases h with h | ⟨b, off, h1, h2⟩
  · exact .inl h
  · exact .inr ⟨b, off, h1, fun j hj => by
      obtain ⟨z, z0, z1, h3⟩ := h2 j hj
      exact ⟨z, z0, z1, (hb.cell (p := ⟨b, off + j, none⟩) (World.block_lt_of_cell? w _ h3)).trans h3⟩⟩
theorem kindLen {c d : Ct} (hc : chkC c = 0) (hd : chkC d = 0) : KindLen c.gates d.gates := fun g hg h hh e => by
  have h1 := ((chkC_ok hc).2.2.2 g hg).len
  have h2 := ((chkC_ok hd).2.2.2 h hh).len
  rw [e] at h1
  omega
theorem right_short {c : Ct} (hc : chkC c = 0) : ∀ g ∈ c.gates, g.wires.length ≤ 1000000 := fun g hg => by
  have h1 := ((chkC_ok hc).2.2.2 g hg).len
  have h2 := (chkC_ok hc).2.2.2 g hg
  have h3 : arity g.kind ≤ 3 := by
    unfold arity
    split
    · omega
    · split
      · omega
      · split <;> omega
  omega
structure Two (w wx : World) (C D : Nat) (c d : Ct) (gv gv2 : Value) (gw gw2 : List (Gt × Value)) : Prop where
  c : Blk wx C 25 #[.int .i64 c.wires, .int .i64 c.bits, gv]
  d : Blk wx D 25 #[.int .i64 d.wires, .int .i64 d.bits, gv2]
  gc : GsAt wx w.heap.size gv gw
  gd : GsAt wx w.heap.size gv2 gw2
  kept : Below w.heap.size w wx
theorem Two.below {w wx w' : World} {C D : Nat} {c d : Ct} {gv gv2 : Value} {gw gw2 : List (Gt × Value)} (h : Two w wx C D c d gv gv2 gw gw2) (hb : Below wx.heap.size wx w') : Two w w' C D c d gv gv2 gw gw2 :=
  ⟨h.c.below hb h.c.lt, h.d.below hb h.d.lt, h.gc.below hb, h.gd.below hb, bt hb h.kept h.kept.size⟩
theorem Two.alloc {w wx : World} {C D : Nat} {c d : Ct} {gv gv2 : Value} {gw gw2 : List (Gt × Value)} (h : Two w wx C D c d gv gv2 gw gw2) (o : Obj) : Two w (wx.alloc o) C D c d gv gv2 gw gw2 := h.below (below1 wx o)
end Go.Proofs.YtonnegkpjmhomaaGreatDoor
end
