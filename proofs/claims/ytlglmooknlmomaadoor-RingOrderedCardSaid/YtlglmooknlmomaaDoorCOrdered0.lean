import Derived.Test.YtlglmooknlmomaaDoorC18
set_option linter.all false
section
namespace Go.Proofs.YtlglmooknlmomaaDoor
open Go.RowKit
theorem three1 (w : World) (t t' t'' : TypeId) (cs cs' cs'' : Array Value) : Blk ((((w.alloc (.cells cs t)).alloc (.cells cs' t')).alloc (.cells cs'' t'')).drew) w.heap.size t cs := (((Blk.new w t cs).alloc _).alloc _).drew
theorem three2 (w : World) (t t' t'' : TypeId) (cs cs' cs'' : Array Value) : Blk ((((w.alloc (.cells cs t)).alloc (.cells cs' t')).alloc (.cells cs'' t'')).drew) (w.heap.size + 1) t' cs' := ((Blk.at_ (w.alloc (.cells cs t)) t' cs' (World.size_alloc _ _)).alloc _).drew
theorem three3 (w : World) (t t' t'' : TypeId) (cs cs' cs'' : Array Value) : Blk ((((w.alloc (.cells cs t)).alloc (.cells cs' t')).alloc (.cells cs'' t'')).drew) (w.heap.size + 1 + 1) t'' cs'' := (Blk.at_ ((w.alloc (.cells cs t)).alloc (.cells cs' t')) t'' cs'' (by simp)).drew
theorem three_below {a w : World} (h : Below a.heap.size a w) (t t' t'' : TypeId) (cs cs' cs'' : Array Value) : Below a.heap.size a ((((w.alloc (.cells cs t)).alloc (.cells cs' t')).alloc (.cells cs'' t'')).drew) := (h.trans (Below.mono (below3 w _ _ _) h.size)).drew
end Go.Proofs.YtlglmooknlmomaaDoor
end
