import Derived.Test.YtonnegkpjmhomaaGreatDoorProg
import Derived.WalkKit
import Derived.WalkLawsBesides
import Derived.WalkSpells
import Derived.Outline
import Derived.Lib.Hide
import Derived.Laws.EntriesVeiled
import Derived.Laws.Tables
import Derived.Lib.OthersKept
import Derived.WalkMore
import Derived.Test.YtonnegkpjmhomaaGreatDoorDLaid0
import Derived.Test.YtonnegkpjmhomaaGreatDoorDLaid2
set_option linter.all false
section
namespace Go.Proofs.YtonnegkpjmhomaaGreatDoor
open Go.RowKit
def mk (l : List UInt8) : Array Value := ((List.range 256).map fun i => Value.bool (l.any fun c => c.toNat == i)).toArray
def hasB (l : List UInt8) (c : UInt8) : Bool := l.contains c
theorem mk_get (l : List UInt8) (c : UInt8) : (mk l)[c.toNat]? = some (.bool (hasB l c)) := by
  have hc : c.toNat < 256 := c.toNat_lt
  unfold mk
  rw [List.getElem?_toArray, List.getElem?_map, List.getElem?_range hc]
  show some (Value.bool _) = _
  congr 2
  unfold hasB
  rw [Bool.eq_iff_iff]
  simp only [List.any_eq_true, beq_iff_eq, List.contains_iff_mem]
  exact ⟨fun ⟨x, hx, he⟩ => by rw [← UInt8.toNat_inj.1 he]; exact hx, fun h => ⟨c, h, rfl⟩⟩
set_option maxHeartbeats 400000 in
theorem has_calls (l : List UInt8) (c : UInt8) (w : World) :
    Calls Tryz.prog 135 #[.agg (mk l), .int .u8 c.toNat] w fun e w' => e = .returned (.bool (hasB l c)) ∧ w' = w.alloc (.cells (mk l) 184) := by
  have hc : (w.alloc (.cells (mk l) 184)).cell? ⟨w.heap.size, c.toNat, none⟩ = some (.bool (hasB l c)) := by
    rw [(Blk.new w _ _).cell]; exact mk_get l c
  have h256 := c.toNat_lt
  go_enter Tryz.func135, Tryz.ntmps135
  go_wp2
  go_ret
  exact ⟨rfl, rfl⟩
theorem mk_size (l : List UInt8) : (mk l).size = 256 := by simp [mk]
theorem mk_one (l : List UInt8) : (mk l).all (·.oneCell') = true := by
  rw [Array.all_eq_true_iff_forall_mem]
  intro x hx
  simp only [mk, List.mem_toArray, List.mem_map] at hx
  obtain ⟨i, _, rfl⟩ := hx
  rfl
theorem mk_set (l : List UInt8) (c : UInt8) : (mk l).setIfInBounds c.toNat (.bool true) = mk (l ++ [c]) := by
  apply Array.ext
  · simp [mk]
  · intro i h1 h2
    rw [Array.getElem_setIfInBounds (by simp at h1; exact h1)]
    simp only [mk, List.getElem_toArray, List.getElem_map, List.getElem_range, List.any_append, List.any_cons, List.any_nil, Bool.or_false]
    split
    · rename_i h
      simp [h]
    · rename_i h
      rw [show (c.toNat == i) = false from by simpa using h, Bool.or_false]
theorem zero185 : Tryz.zeroCells184 = mk [] := by kernel_rfl
set_option maxRecDepth 100000 in
set_option maxHeartbeats 1000000 in
theorem bytes_calls (l : List UInt8) (hd : ∀ pos, pos < l.length → (Utf8.decode (bs l) pos).2 = 1) (w : World) :
    Calls Tryz.prog 136 #[.string (bs l)] w fun e w' => e = .returned (.agg (mk l)) ∧ Below w.heap.size w w' := by
  have hsz : (bs l).size = l.length := bs_size l
  have Hd := Lib.hid hd
  clear hd
  go_enter Tryz.func136, Tryz.ntmps136
  go_wp2_with fail
  rw [zero185]
  go_loopw [4] (fun s4 wr => ∃ pos : Nat, pos ≤ l.length ∧ wr.heap[w.heap.size + 1 + 1]? = some (.stringIter (bs l) pos) ∧ Blk wr (w.heap.size + 1) 184 (mk (l.take pos)) ∧ Blk wr w.heap.size 184 (mk []) ∧ Below w.heap.size w wr) (fun _ wr => l.length - wr.iterPos (w.heap.size + 1 + 1))
  case atStart =>
    refine ⟨0, Nat.zero_le _, by simpa using World.iter_heap ((w.alloc (.cells (mk []) 184)).alloc (.cells (mk []) 184)) (bs l) 0, ?_, ?_, ?_⟩
    · exact Blk.alloc (Blk.at_ (w.alloc _) _ _ (by simp)) _
    · exact Blk.alloc (Blk.alloc (Blk.new w _ _) _) _
    · exact (below2 _ _ _).alloc (by simp; omega) _
  case round =>
    obtain ⟨pos, hpl, hit, ho, hr, hbw⟩ := hrel
    by_cases hp : pos < l.length
    · have hp' : pos < (bs l).size := by omega
      have hit2 := Lib.iterAt_heap wr (w.heap.size + 1 + 1) (bs l) pos (pos + 1) hit
      have hbw2 := Lib.below_iterAt hbw (k := w.heap.size + 1 + 1) (by omega) (bs l) (pos + 1)
      have hnx : ∀ ty, (Instr.next (.pointer (some ⟨w.heap.size + 1 + 1, 0, none⟩)) true ty).run Tryz.prog wr = _ := fun ty => Lib.run_next_any_at wr (w.heap.size + 1 + 1) (bs l) pos ty hit hp'
      rw [Hd.out pos hp] at hnx
      have hlt : (wr.iterAt (w.heap.size + 1 + 1) (bs l) (pos + 1)).iterPos (w.heap.size + 1 + 1) = pos + 1 := by simp only [World.iterPos, hit2]
      have hlt0 : wr.iterPos (w.heap.size + 1 + 1) = pos := by simp only [World.iterPos, hit]
      have ho2 : Blk (wr.iterAt (w.heap.size + 1 + 1) (bs l) (pos + 1)) (w.heap.size + 1) 184 (mk (l.take pos)) := (Lib.iterAt_other wr _ _ (bs l) _ (by omega)).trans ho
      have hr2 : Blk (wr.iterAt (w.heap.size + 1 + 1) (bs l) (pos + 1)) w.heap.size 184 (mk []) := (Lib.iterAt_other wr _ _ (bs l) _ (by omega)).trans hr
      clear hbw ho hr hit
      generalize wr.iterAt (w.heap.size + 1 + 1) (bs l) (pos + 1) = wn at *
      obtain ⟨c, hg, Ht⟩ : ∃ c, (∀ h, (bs l)[pos]'h = c) ∧ Hid (l.take (pos + 1) = l.take pos ++ [c]) := ⟨l[pos], fun h => bs_get l pos h, List.take_succ_eq_append_getElem hp⟩
      have hc := ho2.cell c.toNat
      rw [mk_get] at hc
      have hf := ho2.frozen c.toNat
      have h256 := c.toNat_lt
      have hset := ho2.set_ c.toNat (.bool true)
      rw [mk_set, ← Ht.out] at hset
      have hb3 := hbw2.setCell (p := ⟨w.heap.size + 1, c.toNat, none⟩) (by show w.heap.size ≤ w.heap.size + 1; omega) (.bool true)
      have hr3 := hr2.far' (p := ⟨w.heap.size + 1, c.toNat, none⟩) (by show w.heap.size ≠ w.heap.size + 1; omega) (.bool true)
      have hi3 : (wn.setCell ⟨w.heap.size + 1, c.toNat, none⟩ (.bool true)).heap[w.heap.size + 1 + 1]? = some (.stringIter (bs l) (pos + 1)) := (Below.heap_setCell wn _ _ _ (by show w.heap.size + 1 + 1 ≠ w.heap.size + 1; omega)).trans hit2
      have hm : (wn.setCell ⟨w.heap.size + 1, c.toNat, none⟩ (.bool true)).iterPos (w.heap.size + 1 + 1) = pos + 1 := by simp only [World.iterPos, hi3]
      have H3 := Lib.hid (And.intro hset (And.intro hr3 (And.intro hb3 (And.intro hi3 (And.intro hlt0 hm)))))
      clear Hd hset hr3 hb3 ho2 hr2 hbw2 hi3 hlt0 hm hlt Ht
      go_wp2_with fail
      refine ⟨⟨pos + 1, by omega, H3.out.2.2.2.1, H3.out.1, H3.out.2.1, H3.out.2.2.1⟩, ?_⟩
      rw [H3.out.2.2.2.2.1, H3.out.2.2.2.2.2]
      omega
    · have hnx : ∀ ty, (Instr.next (.pointer (some ⟨w.heap.size + 1 + 1, 0, none⟩)) true ty).run Tryz.prog wr = _ := fun ty => Lib.run_next_end_at wr (w.heap.size + 1 + 1) (bs l) pos ty hit (by omega)
      have ho2 : Hid (Blk wr (w.heap.size + 1) 184 (mk l)) := by show Blk _ _ _ _; rw [List.take_of_length_le (by omega)] at ho; exact ho
      clear ho
      have hi : (Tryz.prog.info? 184).map (·.size) = some (mk l).size := by rw [mk_size]; kernel_rfl
      have hs : (mk []).size = (mk l).size := by rw [mk_size, mk_size]
      go_wp2_with (first
        | (refine wpList_load_row rfl 184 _ rfl (w.heap.size + 1) rfl 184 (mk l) (0, 0) _ ho2.out Tryz.underlying184 rfl hi ?_)
        | (refine wpList_store_row rfl 184 _ _ rfl w.heap.size (mk l) rfl rfl 184 (mk []) hr hi hs (mk_one l) ?_))
      exact bodyPost_ret (v := .agg (mk l)) (results_cell_row rfl _ _ w.heap.size 184 (mk l) (0, 0) _ rfl (hr.row _) Tryz.underlying184 rfl hi) rfl ⟨rfl, below_row hbw (Nat.le_refl _) _⟩
theorem decode_one (l : List UInt8) (h : ∀ c ∈ l, c.toNat < 128) : ∀ pos, pos < l.length → (Utf8.decode (bs l) pos).2 = 1 := fun pos hp => by
  have hp' : pos < (bs l).size := by rw [bs_size]; exact hp
  rw [decode_ascii (bs l) pos hp' (by rw [bs_get]; exact h _ (List.getElem_mem _))]
theorem bytes_ascii (l : List UInt8) (h : ∀ c ∈ l, c.toNat < 128) (w : World) :
    Calls Tryz.prog 136 #[.string (bs l)] w fun e w' => e = .returned (.agg (mk l)) ∧ Below w.heap.size w w' := bytes_calls l (decode_one l h) w
theorem decode_lone (c : UInt8) : (Utf8.decode (bs [c]) 0).2 = 1 := by
  have h : 0 < (bs [c]).size := by rw [bs_size]; exact Nat.zero_lt_one
  by_cases hc : c.toNat < 128
  · rw [decode_ascii (bs [c]) 0 h (by rw [bs_get]; exact hc)]
  · have hg : ((bs [c]).get! 0).toNat = c.toNat := rfl
    have h1 : (bs [c]).size = 1 := bs_size [c]
    unfold Utf8.decode
    simp [hg, h1, hc]
theorem bytes_lone (c : UInt8) (w : World) :
    Calls Tryz.prog 136 #[.string (bs [c])] w fun e w' => e = .returned (.agg (mk [c])) ∧ Below w.heap.size w w' :=
  bytes_calls [c] (fun pos hp => by
    obtain rfl : pos = 0 := by simp at hp; omega
    exact decode_lone c) w
theorem all8 {p : UInt8 → Prop} (h : ∀ n : Fin 256, p (UInt8.ofNat n.1)) : ∀ c, p c := fun c => by
  have := h ⟨c.toNat, c.toNat_lt⟩
  simpa using this
def letters : List UInt8 := [97, 98, 99, 100, 101, 102, 103, 104, 105, 106, 107, 108, 109, 110, 111, 112, 113, 114, 115, 116, 117, 118, 119, 120, 121, 122]
def digs : List UInt8 := [48, 49, 50, 51, 52, 53, 54, 55, 56, 57]
theorem has_letters (c : UInt8) : hasB letters c = isL c := by
  revert c
  exact all8 (by decide +kernel)
theorem has_digs (c : UInt8) : hasB digs c = isD c := by
  revert c
  exact all8 (by decide +kernel)
theorem has_sign (c : UInt8) : hasB [58, 59] c = isS c := by
  revert c
  exact all8 (by decide +kernel)
theorem has_space (c : UInt8) : hasB [32, 10] c = isB c := by
  revert c
  exact all8 (by decide +kernel)
theorem has_any (l : List UInt8) (c : UInt8) (b : Bool) (h : hasB l c = b) (w : World) :
    Calls Tryz.prog 135 #[.agg (mk l), .int .u8 c.toNat] w fun e w' => e = .returned (.bool b) ∧ Below w.heap.size w w' :=
  (has_calls l c w).mono fun _ _ ⟨he, hw⟩ => ⟨by rw [he, h], by rw [hw]; exact below1 _ _⟩
set_option maxRecDepth 100000 in
set_option maxHeartbeats 1000000 in
theorem space_calls (w : World) : Calls Tryz.prog 134 #[] w fun e w' => e = .returned (.agg (mk [32, 10])) ∧ Below w.heap.size w w' := by
  have hi : (Tryz.prog.info? 184).map (·.size) = some (mk [32, 10]).size := by rw [mk_size]; kernel_rfl
  have hs : (mk []).size = (mk [32, 10]).size := by rw [mk_size, mk_size]
  go_enter Tryz.func134, Tryz.ntmps134
  go_wp2_with fail
  rw [zero185]
  refine (bytes_ascii [32, 10] (by decide) _).mono ?_
  rintro e w1 ⟨rfl, hb⟩
  have hr : Blk w1 w.heap.size 184 (mk []) := (Blk.new w _ _).below hb (by simp)
  have hbw := bt hb (below1 w _) (by simp)
  go_wp2_with (refine wpList_store_row rfl 184 _ _ rfl w.heap.size (mk [32, 10]) rfl rfl 184 (mk []) hr hi hs (mk_one _) ?_)
  exact bodyPost_ret (v := .agg (mk [32, 10])) (results_cell_row rfl _ _ w.heap.size 184 (mk [32, 10]) (0, 0) _ rfl (hr.row _) Tryz.underlying184 rfl hi) rfl ⟨rfl, below_row hbw (Nat.le_refl _) _⟩
set_option maxRecDepth 100000 in
set_option maxHeartbeats 1000000 in
theorem letter_calls (w : World) : Calls Tryz.prog 139 #[] w fun e w' => e = .returned (.agg (mk letters)) ∧ Below w.heap.size w w' := by
  have hi : (Tryz.prog.info? 184).map (·.size) = some (mk letters).size := by rw [mk_size]; kernel_rfl
  have hs : (mk []).size = (mk letters).size := by rw [mk_size, mk_size]
  go_enter Tryz.func139, Tryz.ntmps139
  go_wp2_with fail
  rw [zero185]
  refine (bytes_ascii letters (by decide) _).mono ?_
  rintro e w1 ⟨rfl, hb⟩
  have hr : Blk w1 w.heap.size 184 (mk []) := (Blk.new w _ _).below hb (by simp)
  have hbw := bt hb (below1 w _) (by simp)
  go_wp2_with (refine wpList_store_row rfl 184 _ _ rfl w.heap.size (mk letters) rfl rfl 184 (mk []) hr hi hs (mk_one _) ?_)
  exact bodyPost_ret (v := .agg (mk letters)) (results_cell_row rfl _ _ w.heap.size 184 (mk letters) (0, 0) _ rfl (hr.row _) Tryz.underlying184 rfl hi) rfl ⟨rfl, below_row hbw (Nat.le_refl _) _⟩
set_option maxRecDepth 100000 in
set_option maxHeartbeats 1000000 in
theorem digit_calls (w : World) : Calls Tryz.prog 141 #[] w fun e w' => e = .returned (.agg (mk digs)) ∧ Below w.heap.size w w' := by
  have hi : (Tryz.prog.info? 184).map (·.size) = some (mk digs).size := by rw [mk_size]; kernel_rfl
  have hs : (mk []).size = (mk digs).size := by rw [mk_size, mk_size]
  go_enter Tryz.func141, Tryz.ntmps141
  go_wp2_with fail
  rw [zero185]
  refine (bytes_ascii digs (by decide) _).mono ?_
  rintro e w1 ⟨rfl, hb⟩
  have hr : Blk w1 w.heap.size 184 (mk []) := (Blk.new w _ _).below hb (by simp)
  have hbw := bt hb (below1 w _) (by simp)
  go_wp2_with (refine wpList_store_row rfl 184 _ _ rfl w.heap.size (mk digs) rfl rfl 184 (mk []) hr hi hs (mk_one _) ?_)
  exact bodyPost_ret (v := .agg (mk digs)) (results_cell_row rfl _ _ w.heap.size 184 (mk digs) (0, 0) _ rfl (hr.row _) Tryz.underlying184 rfl hi) rfl ⟨rfl, below_row hbw (Nat.le_refl _) _⟩
set_option maxRecDepth 100000 in
set_option maxHeartbeats 1000000 in
theorem sign_calls (w : World) : Calls Tryz.prog 142 #[] w fun e w' => e = .returned (.agg (mk [58, 59])) ∧ Below w.heap.size w w' := by
  have hi : (Tryz.prog.info? 184).map (·.size) = some (mk [58, 59]).size := by rw [mk_size]; kernel_rfl
  have hs : (mk []).size = (mk [58, 59]).size := by rw [mk_size, mk_size]
  go_enter Tryz.func142, Tryz.ntmps142
  go_wp2_with fail
  rw [zero185]
  refine (bytes_ascii [58, 59] (by decide) _).mono ?_
  rintro e w1 ⟨rfl, hb⟩
  have hr : Blk w1 w.heap.size 184 (mk []) := (Blk.new w _ _).below hb (by simp)
  have hbw := bt hb (below1 w _) (by simp)
  go_wp2_with (refine wpList_store_row rfl 184 _ _ rfl w.heap.size (mk [58, 59]) rfl rfl 184 (mk []) hr hi hs (mk_one _) ?_)
  exact bodyPost_ret (v := .agg (mk [58, 59])) (results_cell_row rfl _ _ w.heap.size 184 (mk [58, 59]) (0, 0) _ rfl (hr.row _) Tryz.underlying184 rfl hi) rfl ⟨rfl, below_row hbw (Nat.le_refl _) _⟩
set_option maxRecDepth 100000 in
set_option maxHeartbeats 1000000 in
theorem remark_calls (w : World) : Calls Tryz.prog 137 #[] w fun e w' => e = .returned (.agg (mk [35])) ∧ Below w.heap.size w w' := by
  have hi : (Tryz.prog.info? 184).map (·.size) = some (mk [35]).size := by rw [mk_size]; kernel_rfl
  have hs : (mk []).size = (mk [35]).size := by rw [mk_size, mk_size]
  go_enter Tryz.func137, Tryz.ntmps137
  go_wp2_with fail
  rw [zero185]
  refine (bytes_ascii [35] (by decide) _).mono ?_
  rintro e w1 ⟨rfl, hb⟩
  have hr : Blk w1 w.heap.size 184 (mk []) := (Blk.new w _ _).below hb (by simp)
  have hbw := bt hb (below1 w _) (by simp)
  go_wp2_with (refine wpList_store_row rfl 184 _ _ rfl w.heap.size (mk [35]) rfl rfl 184 (mk []) hr hi hs (mk_one _) ?_)
  exact bodyPost_ret (v := .agg (mk [35])) (results_cell_row rfl _ _ w.heap.size 184 (mk [35]) (0, 0) _ rfl (hr.row _) Tryz.underlying184 rfl hi) rfl ⟨rfl, below_row hbw (Nat.le_refl _) _⟩
end Go.Proofs.YtonnegkpjmhomaaGreatDoor
end
