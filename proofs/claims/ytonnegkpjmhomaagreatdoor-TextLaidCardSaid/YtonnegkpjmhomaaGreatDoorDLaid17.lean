import Derived.Test.YtonnegkpjmhomaaGreatDoorDLaid15
import Derived.Test.YtonnegkpjmhomaaGreatDoorDLaid16
set_option linter.all false
section
set_option linter.all false
namespace Go.Proofs.YtonnegkpjmhomaaGreatDoor
open Go.RowKit
theorem splice_set {α : Type} (cur : List α) (o : Nat) (v : α) (r : List α) (h : o < cur.length) : splice (cur.set o v) (o + 1) r = splice cur o (v :: r) := by
  unfold splice
  rw [List.length_cons, List.take_add_one, List.getElem?_set_self h, List.take_set_of_le (Nat.le_refl _), List.drop_set_of_lt (by omega)]
  simp [Nat.add_comm, Nat.add_left_comm]
theorem Blk.cells_ {g : Nat} {t : TypeId} : ∀ (vs : List Value) (o : Nat) {w : World} {cur : List Value}, Blk w g t cur.toArray → o + vs.length ≤ cur.length → Blk (w.setCells g o vs) g t (splice cur o vs).toArray
  | [], o, w, cur, h, _ => by
    have : splice cur o [] = cur := by simp [splice]
    rw [this]; exact h
  | v :: r, o, w, cur, h, hl => by
    rw [List.length_cons] at hl
    have h1 : Blk (w.setCell ⟨g, o, none⟩ v) g t (cur.set o v).toArray := by
      have := h.set_ o v
      rwa [List.setIfInBounds_toArray] at this
    have h2 := Blk.cells_ r (o + 1) h1 (by rw [List.length_set]; omega)
    rw [splice_set cur o v r (by omega)] at h2
    exact h2
theorem grown_cells {w : World} {g : Nat} : ∀ (vs : List Value) (o : Nat) {wc : World}, w.grownBy wc (some g) → w.grownBy (wc.setCells g o vs) (some g)
  | [], _, _, h => h
  | v :: r, o, _, h => grown_cells r (o + 1) (gSet h o v)
theorem below_cells_ {B g : Nat} {a : World} (hb : B ≤ g) : ∀ (vs : List Value) (o : Nat) {w : World}, Below B a w → Below B a (w.setCells g o vs)
  | [], _, _, h => h
  | v :: r, o, _, h => below_cells_ hb r (o + 1) (h.setCell hb v)
theorem own_blk {w : World} {base : Nat} {e : TypeId} {zs : List Value} {g n c : Nat} (h : w.ownsRow base e 1 (.slice (some ⟨g, 0, none⟩) n c) n zs) (hl : zs.length = n) : ∃ cur : List Value, Blk w g e cur.toArray ∧ cur.length = c ∧ n ≤ c ∧ c ≤ maxLen ∧ cur.take n = zs ∧ base ≤ g := by
  rcases h.2 with ⟨h, _⟩ | ⟨g', cap, cur, h, hb, hg, h1, h2, h3, h4⟩
  · cases h
  · injection h with e1 _ e2
    injection e1 with e1
    injection e1 with e1
    subst e1 e2
    refine ⟨cur.toList, by show _ = _; rw [hg], ?_, h1, h2, ?_, hb⟩
    · rw [Array.length_toList]; omega
    · rw [Nat.mul_one] at h4; exact h4
theorem own_mk {w : World} {base : Nat} {e : TypeId} {zs cur : List Value} {g n : Nat} (hB : Blk w g e cur.toArray) (h1 : n ≤ cur.length) (h2 : cur.length ≤ maxLen) (h3 : cur.take n = zs) (hl : zs.length = n) (hb : base ≤ g) :
    w.ownsRow base e 1 (.slice (some ⟨g, 0, none⟩) n cur.length) n zs :=
  ⟨by rw [hl, Nat.mul_one], .inr ⟨g, cur.length, cur.toArray, rfl, hb, hB, h1, h2, by simp, by simpa using h3⟩⟩
theorem add_off (g j : Nat) : (⟨g, 0, none⟩ : Addr).add j = ⟨g, j, none⟩ := by
  unfold Addr.add
  by_cases h : j = 0 <;> simp [h]
theorem splice_two {α : Type} (L b : List α) (i : Nat) (x : α) (h : i + 1 ≤ L.length) : splice (splice L (i + 1) b) i [x] = L.take i ++ x :: (b ++ L.drop (i + 1 + b.length)) := by
  have h1 : (L.take (i + 1)).length = i + 1 := by rw [List.length_take]; omega
  unfold splice
  rw [List.take_append_of_le_length (by omega), List.take_take, Nat.min_eq_left (by omega), List.length_singleton, List.drop_append_of_le_length (by omega), List.drop_of_length_le (by omega)]
  simp
theorem splice_two' {α : Type} (L b : List α) (i : Nat) (x : α) (h : i + 1 ≤ L.length) : splice (splice L i [x]) (i + 1) b = L.take i ++ x :: (b ++ L.drop (i + 1 + b.length)) := by
  have h1 : (L.take i).length = i := by rw [List.length_take]; omega
  unfold splice
  rw [List.length_singleton, ← List.append_assoc (L.take i)]
  have h2 : (L.take i ++ [x]).length = i + 1 := by simp; omega
  rw [List.take_left' h2, List.drop_append, h2, show i + 1 + b.length - (i + 1) = b.length by omega, List.drop_of_length_le (by omega), List.drop_drop]
  simp
theorem two_take {α : Type} (L cs : List α) (n i : Nat) (x : α) (hc : L.take i = cs.take i) (hl : cs.length = n) (hi : i ≤ n) : (L.take i ++ x :: (cs.drop i ++ L.drop (i + 1 + (cs.drop i).length))).take (n + 1) = cs.take i ++ x :: cs.drop i := by
  rw [hc, show cs.take i ++ x :: (cs.drop i ++ L.drop (i + 1 + (cs.drop i).length)) = (cs.take i ++ x :: cs.drop i) ++ L.drop (i + 1 + (cs.drop i).length) by simp]
  rw [List.take_left']
  simp [hl]
  omega
theorem zlen (k : Nat) : (Builtin.zeroCells (Value.int .i64 0).cells k).toList.length = k := by
  rw [Array.length_toList, size_zeroCells]
  exact Nat.mul_one k
theorem to_arr {α : Type} (l : List α) (z : Array α) : (l ++ z.toList).toArray = l.toArray ++ z := by simp
theorem shape_blk {w : World} {g : Nat} {t : TypeId} {cs : Array Value} (h : Blk w g t cs) : w.shape? g = some (t, cs.size) := by
  unfold Blk at h
  unfold World.shape?
  rw [h]
set_option maxHeartbeats 4000000 in
theorem Insert_own (w : World) (base : Nat) (v : Value) (zs : List Int) (x : Int) (i vb vc : Nat) (hi : i ≤ zs.length) (hz : zs.length ≤ 1000) (own : w.ownsRow base 3 1 v zs.length (zs.map (Value.int .i64))) (hb : base ≤ w.heap.size)
    (hv : Blk w vb 3 #[.int .i64 x]) (hne : v.ownBlock ≠ some vb) :
    Calls Tryz.prog 117 #[v, .int .i64 i, .slice (some ⟨vb, 0, none⟩) 1 vc] w fun e w' =>
      ∃ v', e = .returned v' ∧ w'.ownsRow base 3 1 v' (zs.length + 1) ((zs.take i ++ x :: zs.drop i).map (Value.int .i64)) ∧ w.grownBy w' v.ownBlock ∧ (v'.ownBlock = v.ownBlock ∨ ∃ k, v'.ownBlock = some k ∧ w.heap.size ≤ k) := by
  have h1v : ∀ u ∈ [Value.int .i64 x], u.oneCell' = true := by intro u hu; rw [List.mem_singleton.1 hu]; rfl
  have h1c : ∀ u ∈ zs.map (Value.int .i64), u.oneCell' = true := by intro u hu; obtain ⟨y, _, rfl⟩ := List.mem_map.1 hu; rfl
  have hvs : ∀ j u, [Value.int .i64 x][j]? = some u → w.cell? ⟨vb, 0 + j, none⟩ = some u := by
    intro j u hj
    rw [Nat.zero_add, hv.cell j]
    simpa using hj
  have hml : maxLen = 9223372036854775807 := rfl
  have hmap : (zs.take i ++ x :: zs.drop i).map (Value.int .i64) = (zs.map (Value.int .i64)).take i ++ .int .i64 x :: (zs.map (Value.int .i64)).drop i := by simp
  have hcl : (zs.map (Value.int .i64)).length = zs.length := List.length_map ..
  have hvl : ([Value.int .i64 x] : List Value).length = 1 := rfl
  rw [hmap]
  generalize zs.map (Value.int .i64) = cs at *
  generalize zs.length = n at *
  have hres : (cs.take i ++ Value.int .i64 x :: cs.drop i).length = n + 1 := by simp [hcl]; omega
  have newrow : ∀ (w' : World) (L : List Value) (cap : Nat), Blk w' w.heap.size 3 L.toArray → L.take (n + 1) = cs.take i ++ Value.int .i64 x :: cs.drop i → L.length = cap → n + 1 ≤ cap → cap ≤ maxLen → w'.ownsRow base 3 1 (.slice (some ⟨w.heap.size, 0, none⟩) (n + 1) cap) (n + 1) (cs.take i ++ Value.int .i64 x :: cs.drop i) := by
    intro w' L cap h1 h2 h3 h4 h5
    subst h3
    exact own_mk h1 h4 h5 h2 hres hb
  rcases id own.2 with ⟨rfl, hn0⟩ | ⟨g, c, cur, rfl, hbg, hg, hnc, hcm, hcs, htk⟩
  ·
    subst hn0
    obtain rfl : i = 0 := by omega
    obtain rfl : cs = [] := List.eq_nil_of_length_eq_zero hcl
    refine (Tryz.slices_Insert_int_end_grow none 0 0 vb 0 1 vc [] [.int .i64 x] w (by omega) (Nat.le_refl _) (by omega) (by omega) rfl hvl (fun _ => rfl) (fun a ha => by cases ha) hvs h1v).mono ?_
    rintro e w' ⟨rfl, rfl⟩
    have hge := grownCap_ge w (0 + 1) 0 3
    have hle := grownCap_le_maxLen w (0 + 1) 0 3 (by omega)
    generalize grownCap w (0 + 1) 0 3 = cap at *
    refine ⟨_, rfl, newrow _ ([Value.int .i64 x] ++ (Builtin.zeroCells (Value.int .i64 0).cells (cap - (0 + 1))).toList) cap ?_ (by simp) ?_ hge hle, ?_, .inr ⟨_, rfl, Nat.le_refl _⟩⟩
    · rw [to_arr [Value.int .i64 x] (Builtin.zeroCells (Value.int .i64 0).cells (cap - (0 + 1)))]
      exact Blk.new w.drew _ _
    · rw [List.length_append, zlen]
      show 1 + _ = cap
      omega
    · exact grown_drew (World.grownBy_alloc _ _ _)
  · obtain ⟨curl, hB, hcl2, _, _, htk2, _⟩ := own_blk own hcl
    have hcsc : ∀ j u, cs[j]? = some u → w.cell? ⟨g, 0 + j, none⟩ = some u := by
      intro j u hj
      have hjl : j < n := by have := (List.getElem?_eq_some_iff.1 hj).1; omega
      rw [Nat.zero_add, hB.cell j, List.getElem?_toArray]
      rw [← htk2, List.getElem?_take, if_pos hjl] at hj
      exact hj
    have hgv : g ≠ vb := fun e => hne (by rw [e]; rfl)
    by_cases hroom : n + 1 ≤ c
    · by_cases hin : i < n
      ·
        have hsome : ∀ j, j < n + 1 → (w.cell? ⟨g, 0 + j, none⟩).isSome = true := by
          intro j hj
          rw [Nat.zero_add, hB.cell j, List.getElem?_toArray, List.getElem?_eq_getElem (by omega)]
          rfl
        refine (Tryz.slices_Insert_int_shift g 0 n c i vb 0 1 vc cs [.int .i64 x] w hin (by omega) hroom (by omega) (Ne.symm hgv) hcl hvl hcsc hsome (fun j _ => hB.frozen _) hvs h1c h1v _ _ _ _ (shape_blk hv) (shape_blk hB) (by rw [List.size_toArray]; omega) (hv.frozen _) (hv.frozen _)).mono ?_
        rintro e w' ⟨rfl, rfl⟩
        rw [Nat.zero_add, Nat.zero_add]
        have hB2 := (hB.drew.cells_ (cs.drop i) (i + 1) (by rw [List.length_drop]; omega))
        have hB3 := hB2.cells_ [Value.int .i64 x] i (by rw [length_splice _ _ _ (by rw [List.length_drop]; omega)]; simp; omega)
        rw [splice_two _ _ _ _ (by omega)] at hB3
        have hlen : (curl.take i ++ Value.int .i64 x :: (cs.drop i ++ curl.drop (i + 1 + (cs.drop i).length))).length = c := by
          simp only [List.length_append, List.length_cons, List.length_take, List.length_drop]
          omega
        refine ⟨_, rfl, ?_, grown_cells _ _ (grown_cells _ _ (grown_drew (grown_refl w _))), .inl rfl⟩
        have := own_mk (n := n + 1) hB3 (by omega) (by omega) (two_take curl cs n i _ (by rw [← htk2, List.take_take, Nat.min_eq_left hi]) hcl hi) hres hbg
        rw [hlen] at this
        exact this
      · obtain rfl : i = n := by omega
        refine (Tryz.slices_Insert_int_end_room g 0 i c vb 0 1 vc [.int .i64 x] w (by omega) hroom (by omega) hvl (fun j hj => ?_) (fun j _ => hB.frozen _) hvs h1v).mono ?_
        · rw [hB.cell, List.getElem?_toArray, List.getElem?_eq_getElem (by omega)]
          rfl
        rintro e w' ⟨rfl, rfl⟩
        rw [Nat.zero_add]
        have hB3 := hB.cells_ [Value.int .i64 x] i (by simp; omega)
        refine ⟨_, rfl, ?_, grown_cells _ _ (grown_refl w _), .inl rfl⟩
        have hlen : (splice curl i [Value.int .i64 x]).length = c := by rw [length_splice _ _ _ (by simp; omega)]; exact hcl2
        have := own_mk (n := i + 1) hB3 (by omega) (by omega) (by
          unfold splice
          rw [htk2, List.take_of_length_le (l := cs) (by omega), List.drop_of_length_le (l := cs) (by omega), ← List.append_assoc, List.take_left']
          simp [hcl]) hres hbg
        rw [hlen] at this
        exact this
    · by_cases hin : i < n
      · refine (Tryz.slices_Insert_int_grow g 0 n c i vb 0 1 vc cs [.int .i64 x] w hin (by omega) hnc (by omega) (by omega) hcl hvl hcsc hvs h1c h1v).mono ?_
        rintro e w' ⟨rfl, rfl⟩
        have hge := grownCap_ge w (n + 1) c 3
        have hle := grownCap_le_maxLen w (n + 1) c 3 (by omega)
        generalize grownCap w (n + 1) c 3 = cap at *
        obtain ⟨L, hL, hLl, hLt⟩ : ∃ L : List Value, (cs.take i).toArray ++ Builtin.zeroCells (Value.int .i64 0).cells (n + 1 - i) ++ Builtin.zeroCells (Value.int .i64 0).cells (cap - (n + 1)) = L.toArray ∧ L.length = cap ∧ L.take i = cs.take i := by
          refine ⟨cs.take i ++ (Builtin.zeroCells (Value.int .i64 0).cells (n + 1 - i)).toList ++ (Builtin.zeroCells (Value.int .i64 0).cells (cap - (n + 1))).toList, by simp, ?_, ?_⟩
          · simp only [List.length_append, Array.length_toList, size_zeroCells, List.length_take]
            show min i cs.length + _ * 1 + _ * 1 = cap
            omega
          · rw [List.append_assoc, List.take_left']
            rw [List.length_take]; omega
        rw [hL]
        have hB1 := (Blk.new w 3 L.toArray).drew
        have hB2 := (hB1.cells_ [Value.int .i64 x] i (by simp; omega)).drew
        have hB3 := hB2.cells_ (cs.drop i) (i + 1) (by rw [length_splice _ _ _ (by simp; omega), List.length_drop]; omega)
        rw [splice_two' _ _ _ _ (by omega)] at hB3
        have hlen : (L.take i ++ Value.int .i64 x :: (cs.drop i ++ L.drop (i + 1 + (cs.drop i).length))).length = cap := by
          simp only [List.length_append, List.length_cons, List.length_take, List.length_drop]
          omega
        refine ⟨_, rfl, newrow _ _ cap hB3 (two_take L cs n i _ hLt hcl hi) hlen hge hle, ?_, .inr ⟨_, rfl, Nat.le_refl _⟩⟩
        have hb0 : Below w.heap.size w (((w.alloc (.cells L.toArray 3)).drew.setCells w.heap.size i [Value.int .i64 x]).drew.setCells w.heap.size (i + 1) (cs.drop i)) :=
          below_cells_ (Nat.le_refl _) _ _ ((below_cells_ (Nat.le_refl _) _ _ (below1 w _).drew).drew)
        exact ⟨hb0.os, hb0.tape, hb0.output, hb0.size, fun k hk _ => hb0.block k hk⟩
      · obtain rfl : i = n := by omega
        refine (Tryz.slices_Insert_int_end_grow (some ⟨g, 0, none⟩) i c vb 0 1 vc cs [.int .i64 x] w (by omega) hnc (by omega) (by omega) hcl hvl (fun h => by cases h) (fun a ha j u hj => ?_) hvs h1v).mono ?_
        · injection ha with ha
          subst ha
          rw [add_off]
          have := hcsc j u hj
          rwa [Nat.zero_add] at this
        rintro e w' ⟨rfl, rfl⟩
        have hge := grownCap_ge w (i + 1) c 3
        have hle := grownCap_le_maxLen w (i + 1) c 3 (by omega)
        generalize grownCap w (i + 1) c 3 = cap at *
        refine ⟨_, rfl, newrow _ ((cs ++ [Value.int .i64 x]) ++ (Builtin.zeroCells (Value.int .i64 0).cells (cap - (i + 1))).toList) cap ?_ ?_ ?_ hge hle, ?_, .inr ⟨_, rfl, Nat.le_refl _⟩⟩
        · rw [to_arr (cs ++ [Value.int .i64 x]) (Builtin.zeroCells (Value.int .i64 0).cells (cap - (i + 1)))]
          exact Blk.new w.drew _ _
        · rw [List.take_left' (by simp [hcl]), List.take_of_length_le (by omega), List.drop_of_length_le (by omega)]
        · rw [List.length_append, zlen, List.length_append]
          show cs.length + 1 + _ = cap
          omega
        · exact grown_drew (World.grownBy_alloc _ _ _)
end Go.Proofs.YtonnegkpjmhomaaGreatDoor
end
