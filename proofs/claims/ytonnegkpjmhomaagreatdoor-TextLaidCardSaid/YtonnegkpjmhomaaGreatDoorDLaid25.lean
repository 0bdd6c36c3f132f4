import Derived.Test.YtonnegkpjmhomaaGreatDoorProg
import Derived.Below
import Derived.Deep.Draws
import Derived.Deep.AppendLies
import Derived.Maps.AppendAt
import Derived.OwnWalk
import Derived.Laws.BytesArg
import Derived.Laws.MakeOwn
import Derived.Laws.OwnMore
import Derived.Deep.OwnRows
import Derived.Tactics
import Derived.Lib.ConvBytes
import Derived.Laws.Slices
import Derived.WalkKit
import Derived.KernelRfl
import Derived.RowKit3
import Derived.Deep.LoopGhost
import Derived.Deep.QuietTactic
import Derived.BigQuiet
import Derived.WideLaws
import Derived.Deep.DeepCutAuto
import Derived.Deep.CutBlock
import Derived.Deep.RegionHeld3
import Derived.Laws.Rows
import Derived.Lib.AppendStr
import Derived.ArgAppend
import Derived.Laws.IdiomCopy
import Derived.OrdersHeld
import Derived.Laws.BitsLemmas
import Derived.RowKit
import Derived.Laws.StructEq
import Derived.Test.YtonnegkpjmhomaaGreatDoorDLaid11
import Derived.Test.YtonnegkpjmhomaaGreatDoorDLaid21
import Derived.Test.YtonnegkpjmhomaaGreatDoorDLaid22
import Derived.Test.YtonnegkpjmhomaaGreatDoorDLaid23
import Derived.Test.YtonnegkpjmhomaaGreatDoorDLaid24
set_option linter.all false
section
set_option linter.all false
namespace Go.Proofs.YtonnegkpjmhomaaGreatDoor
open Go.RowKit
theorem toList_ne (t : List UInt8) : (bs t).toList = t := by rw [ByteArray.toList_eq, bs_list]
theorem str_at {w : World} {n0 : Nat} {A : Option Addr} {c : Nat} {ws : List (List UInt8)} (h : w.ownsRow n0 9 1 (.slice A ws.length c) ws.length (strC ws)) (j : Nat) (x : List UInt8) (hj : ws[j]? = some x) : ∃ g, A = some ⟨g, 0, none⟩ ∧ w.cell? ⟨g, j, none⟩ = some (.string (bs x)) := by
  have hjl : j < ws.length := by
    rcases Nat.lt_or_ge j ws.length with h | h
    · exact h
    · rw [List.getElem?_eq_none h] at hj; cases hj
  rcases h.2 with ⟨_, h0⟩ | ⟨g, c', cur, hA, _, hg, hnc, hcm, hcs, htk⟩
  · have : ws = [] := by simpa [strC] using h0
    subst this; cases hj
  · injection hA with hA
    refine ⟨g, hA, ?_⟩
    have e2 : (cur.toList.take (ws.length * 1))[j]? = (strC ws)[j]? := by rw [htk]
    rw [List.getElem?_take, if_pos (by omega), strC, List.getElem?_map, hj] at e2
    exact (cell_of_row w g _ cur _ (0, 0) hg).trans (by simpa using e2)
theorem grown_drewN {w x : World} {F : Nat} (h : w.grownBy x (some F)) (n : Nat) : w.grownBy (x.drewN n) (some F) := ⟨h.os, h.tape, h.output, h.size, h.block⟩
end Go.Proofs.YtonnegkpjmhomaaGreatDoor
end
