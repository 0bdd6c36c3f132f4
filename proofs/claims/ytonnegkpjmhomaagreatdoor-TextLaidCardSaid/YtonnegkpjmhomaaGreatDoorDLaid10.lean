import Derived.Lib.ItoaLen
import Derived.Test.YtonnegkpjmhomaaGreatDoorDLaid9
set_option linter.all false
section
namespace Go.Proofs.YtonnegkpjmhomaaGreatDoor
open Go.RowKit
theorem below_grow (w : World) (k : Nat) (os : Array Obj) : Below w.heap.size w (Sort.grow (w.drewN k) os) :=
  ⟨rfl, rfl, rfl, by simp [Sort.grow, World.drewN], fun i hi => by
    show (w.heap ++ os)[i]? = _
    rw [Array.getElem?_append_left hi]⟩
theorem Itoa_calls (n : Int) (h : -9000000000000000000 ≤ n ∧ n ≤ 9000000000000000000) (w : World) (ht : Tabs w) :
    Calls Tryz.prog 47 #[.int .i64 n] w fun e w' => e = .returned (.string (bs (itoa n))) ∧ Below w.heap.size w w' :=
  (Tryz.strconv_Itoa n (by omega) (by omega) w ht.1).mono fun _ _ ⟨he, k, os, hw⟩ => ⟨he, by rw [hw]; exact below_grow _ _ _⟩
theorem itoa_len (n : Int) (h : -9000000000000000000 ≤ n ∧ n ≤ 9000000000000000000) : (itoa n).length ≤ 21 := Lib.itoa_length_le n (by omega) (by omega)
def strC (xs : List (List UInt8)) : List Value := xs.map fun s => .string (bs s)
theorem strC_snoc (xs : List (List UInt8)) (s : List UInt8) : strC (xs ++ [s]) = strC xs ++ [.string (bs s)] := by simp [strC]
theorem join_len (sep : List UInt8) (hs : sep.length ≤ 10) (xs : List (List UInt8)) (h : ∀ x ∈ xs, x.length ≤ 1000000) : (Lib.join xs sep).length ≤ xs.length * 1000010 := by
  induction xs with
  | nil => simp [Lib.join, List.intercalate]
  | cons x xs ih =>
    have hx := h x (by simp)
    have ih := ih (fun y hy => h y (by simp [hy]))
    cases xs with
    | nil => simp [Lib.join, List.intercalate]; omega
    | cons y ys =>
      have e : Lib.join (x :: y :: ys) sep = x ++ sep ++ Lib.join (y :: ys) sep := by simp [Lib.join, List.intercalate, List.intersperse]
      rw [e, List.length_append, List.length_append]
      simp only [List.length_cons] at ih ⊢
      omega
set_option maxRecDepth 100000 in
set_option maxHeartbeats 1000000 in
theorem joined_calls (xs : List (List UInt8)) (hne : xs ≠ []) (hl : xs.length ≤ 1000) (hx : ∀ x ∈ xs, x.length ≤ 1000000) (n0 : Nat) (v : Value) (w : World) (h : w.ownsRow n0 9 1 v xs.length (strC xs)) :
    Calls Tryz.prog 48 #[v] w fun e w' => e = .returned (.string (bs (Lib.join xs [32]))) ∧ Below w.heap.size w w' := by
  rcases h.2 with ⟨_, h0⟩ | ⟨g, c, cur, rfl, _, hg, hnc, hcm, hcs, htk⟩
  · exact absurd (by simpa [strC] using h0) hne
  · have hJ := Tryz.strings_Join g 0 c (xs.map bs) (bs [32]) w (fun j x hj => by
      rw [List.getElem?_map] at hj
      cases hp : xs[j]? with
      | none => rw [hp] at hj; cases hj
      | some s =>
        rw [hp] at hj
        obtain rfl : bs s = x := by simpa using hj
        have hjl : j < xs.length := by
          rcases Nat.lt_or_ge j xs.length with h | h
          · exact h
          · rw [List.getElem?_eq_none h] at hp; cases hp
        have e2 : (cur.toList.take (xs.length * 1))[j]? = (strC xs)[j]? := by rw [htk]
        rw [List.getElem?_take, if_pos (by omega), strC, List.getElem?_map, hp] at e2
        rw [Nat.zero_add]
        exact (cell_of_row w g _ cur _ (0, 0) hg).trans (by simpa using e2)) (Blk.lt (t := 9) (cs := cur) hg) (by rw [List.length_map]; omega) (by rw [List.length_map]; exact hnc)
      (by
        have e : (xs.map bs).map (·.data.toList) = xs := by rw [List.map_map]; exact (List.map_congr_left (fun s _ => bs_list s)).trans (List.map_id _)
        rw [e, bs_list]
        have := join_len [32] (by decide) xs hx
        have h3 : xs.length * 1000010 ≤ 1000 * 1000010 := Nat.mul_le_mul_right _ hl
        omega)
    have e : (xs.map bs).map (·.data.toList) = xs := by rw [List.map_map]; exact (List.map_congr_left (fun s _ => bs_list s)).trans (List.map_id _)
    rw [e, bs_list, List.length_map] at hJ
    have HJ := Lib.hid hJ
    clear hJ e
    go_enter Tryz.func48, Tryz.ntmps48
    go_wp2_with fail
    refine HJ.out.mono ?_
    rintro e w1 ⟨rfl, hb⟩
    go_wp2_with fail
    go_ret
    exact ⟨rfl, hb⟩
structure KeptT (t : TypeId) (n0 R : Nat) (w w' : World) : Prop where
  os : w'.os = w.os
  tape : w'.tape = w.tape
  output : w'.output = w.output
  size : w.heap.size ≤ w'.heap.size
  block : ∀ j, j < w.heap.size → j ≠ R → (j < n0 ∨ ∀ cs, ¬ Blk w j t cs) → w'.heap[j]? = w.heap[j]?
theorem KeptT.below {t : TypeId} {n0 R : Nat} {w w' : World} (h : KeptT t n0 R w w') (hR : n0 ≤ R) (hn : n0 ≤ w.heap.size) : Below n0 w w' :=
  ⟨h.os, h.tape, h.output, h.size, fun j hj => h.block j (by omega) (by omega) (.inl hj)⟩
theorem KeptT.of_below {t : TypeId} {n0 R : Nat} {w w' : World} (h : Below w.heap.size w w') : KeptT t n0 R w w' := ⟨h.os, h.tape, h.output, h.size, fun j hj _ _ => h.block j hj⟩
theorem KeptT.mk3 {t : TypeId} {n0 R : Nat} {w wa w2 w3 : World} {row : Option Nat} (h1 : Below w.heap.size w wa) (hg : wa.grownBy w2 row) (hrr : ∀ g, row = some g → n0 ≤ g ∧ ∃ cur, Blk wa g t cur) (hs : w2.grownBy w3 (some R)) : KeptT t n0 R w w3 :=
  ⟨hs.os.trans (hg.os.trans h1.os), hs.tape.trans (hg.tape.trans h1.tape), hs.output.trans (hg.output.trans h1.output), Nat.le_trans h1.size (Nat.le_trans hg.size hs.size), fun j hj hR hc => by
    have ja := Nat.lt_of_lt_of_le hj h1.size
    refine (hs.block j (Nat.lt_of_lt_of_le ja hg.size) (fun e => hR (by injection e))).trans ((hg.block j ja (fun e => ?_)).trans (h1.block j hj))
    obtain ⟨h3, cur, h4⟩ := hrr j e.symm
    rcases hc with hc | hc
    · omega
    · exact hc cur ((h1.block j hj).symm.trans h4)⟩
theorem infoString : (Tryz.prog.info? 9).map (fun i => (i.zero, i.size, i.bytes)) = some (some (.string ByteArray.empty), 1, 16) := by kernel_rfl
set_option maxRecDepth 100000 in
set_option maxHeartbeats 2000000 in
theorem shown1_calls (n : Int) (hn : -9000000000000000000 ≤ n ∧ n ≤ 9000000000000000000) (Bl : Nat) (lv : Value) (xs : List (List UInt8)) (hx : xs.length ≤ 1000) (n0 : Nat) (w : World) (hn0 : n0 ≤ Bl) (h : Blk w Bl 29 #[lv]) (hrow : w.ownsRow n0 9 1 lv xs.length (strC xs))
    (ht : Tabs w) (hF : ∀ g, n0 ≤ g → Far g) :
    Calls Tryz.prog 94 #[.int .i64 n, .pointer (some ⟨Bl, 0, none⟩)] w fun e w' => ∃ lv', e = .returned (.tuple #[]) ∧ Blk w' Bl 29 #[lv'] ∧ w'.ownsRow n0 9 1 lv' (xs.length + 1) (strC (xs ++ [itoa n])) ∧ KeptT 9 n0 Bl w w' ∧ Tabs w' := by
  have HF := Lib.hid hF
  have HI := Lib.hid (fun W (h : Tabs W) => Itoa_calls n hn W h)
  obtain ⟨A, c, rfl⟩ := own_form hrow
  obtain ⟨i0, hinf, hz0, hz1, hz2⟩ := info_parts infoString
  have hBw := h.lt
  have hml : xs.length + 1 ≤ maxLen := by unfold maxLen; omega
  clear hF hn
  go_enter Tryz.func94, Tryz.ntmps94
  go_wp2_with fail
  have hd := h.drew
  have hrowd : w.drew.ownsRow n0 9 1 (.slice A xs.length c) xs.length (strC xs) := hrow
  have htd : Tabs w.drew := ht.below ((Below.refl _ _).drew)
  have y0 : w.drew.cell? ⟨Bl, 0, none⟩ = some (.slice A xs.length c) := hd.cell 0
  have yf := hd.frozen
  have hwd : Below w.heap.size w w.drew := (Below.refl _ _).drew
  go_region_law (first
    | (go_simp; go_at_call 47; (with_reducible refine (HI.out _ htd).mono ?_); rintro e w1 ⟨rfl, hb1⟩; have h1 := hd.below hb1 hd.lt; have hrow1 := own_below hrowd hb1 (Nat.le_refl _); have ht1 := htd.below hb1; clear y0 yf; have hBl1 := h1.lt; have y0 : (w1.alloc (.cells #[.string (bs (itoa n))] 9)).cell? ⟨Bl, 0, none⟩ = some (.slice A xs.length c) := (World.cell?_alloc_lt _ _ _ hBl1).trans (h1.cell 0); have y0b : w1.cell? ⟨Bl, 0, none⟩ = some (.slice A xs.length c) := h1.cell 0; have yf := h1.frozen; have hz1' := hb1.size)
    | (refine step_append_one rfl _ _ 29 rfl n0 9 i0 _ 1 16 Tryz.underlying29 hinf hz0 hz1 hz2 rfl (by decide) (.slice A xs.length c) xs.length (strC xs) rfl (own_below hrow1 (below1 w1 (.cells #[.string (bs (itoa n))] 9)) (Nat.le_refl _)) ⟨w1.heap.size, 0, none⟩ 1 1 [.string (bs (itoa n))] rfl rfl (row_new _ _ _) (by simp [Value.oneCell']) hml (by omega) (by simp; omega) ?_; intro v' w2 row hown' hgrow hrr; obtain ⟨g', cap', rfl⟩ := ownsRow_succ hown'; have hrr2 : ∀ g, row = some g → n0 ≤ g ∧ ∃ cur, Blk (w1.alloc (.cells #[.string (bs (itoa n))] 9)) g 9 cur := (fun g e => by rcases hrr with h | ⟨g2, cap2, cur2, h2, hv2, _, hb2, _⟩; (rw [h] at e; cases e); (rw [h2] at e; injection e with e; subst e; exact ⟨(hrow1.lt g2 (by rw [hv2]; rfl)).1, cur2, hb2⟩)); have h2 := (h1.alloc (.cells #[.string (bs (itoa n))] 9)).grown hgrow (fun e => by obtain ⟨_, cur, hb⟩ := hrr2 _ e.symm; exact hb.ne_ (h1.alloc _) (by decide) rfl); clear y0 y0b yf; have y0 := h2.cell 0; have yf := h2.frozen; simp at y0))
  all_goals
    clear y0 yf
    have hS : w2.grownBy (w2.setCell ⟨Bl, 0, none⟩ (.slice (some ⟨g', 0, none⟩) (xs.length + 1) cap')) (some Bl) := grown_set ⟨rfl, rfl, rfl, Nat.le_refl _, fun _ _ _ => rfl⟩ 0 _
    have a1 : Blk (w2.setCell ⟨Bl, 0, none⟩ (.slice (some ⟨g', 0, none⟩) (xs.length + 1) cap')) Bl 29 #[.slice (some ⟨g', 0, none⟩) (xs.length + 1) cap'] := h2.set_ 0 _
    have a2 := hown'.kept hS (.inr (own_blk_ne hown' h2 (by decide)))
    have a3 := KeptT.mk3 (hwd.trans ((hb1.mono (by simp)).trans (below1 w1 (.cells #[.string (bs (itoa n))] 9) |>.mono (by simp at hz1'; omega)))) hgrow hrr2 hS
    have a4 := ((ht1.below (below1 w1 (.cells #[.string (bs (itoa n))] 9))).rowed hgrow (fun g e => HF.out g (hrr2 g e).1)).set (i := 0) (v := .slice (some ⟨g', 0, none⟩) (xs.length + 1) cap') (HF.out Bl hn0)
    rw [← strC_snoc] at a2
    go_end0
    exact ⟨_, rfl, a1, a2, a3, a4⟩
end Go.Proofs.YtonnegkpjmhomaaGreatDoor
end
section
namespace Go.Proofs.YtonnegkpjmhomaaGreatDoor
open Go.RowKit
def headS (g : Gt) : List (List UInt8) := (if 0 < g.ifn then [[105, 102], itoa (g.ifn - 1) ++ [58]] else []) ++ [wordK g.kind]
def partsS (g : Gt) : List (List UInt8) := headS g ++ g.wires.map itoa ++ (if g.kind = 13 then [itoa g.bit] else [])
theorem join_cons (a : List UInt8) (r : List (List UInt8)) : Lib.join (a :: r) [32] = a ++ r.flatMap (fun x => 32 :: x) := by
  induction r generalizing a with
  | nil => simp [Lib.join, List.intercalate]
  | cons b r ih =>
    have e : Lib.join (a :: b :: r) [32] = a ++ [32] ++ Lib.join (b :: r) [32] := by simp [Lib.join, List.intercalate, List.intersperse]
    rw [e, ih]; simp
theorem shownP_join (g : Gt) : Lib.join (partsS g) [32] ++ [59] = shownP g := by
  unfold partsS headS shownP
  by_cases h1 : 0 < g.ifn <;> by_cases h2 : g.kind = 13 <;> simp [h1, h2, join_cons, List.flatMap_map]
theorem headS_len (g : Gt) : (headS g).length ≤ 3 := by unfold headS; split <;> simp
structure Shows (g : Gt) : Prop where
  wires : ∀ x ∈ g.wires, 0 ≤ x ∧ x ≤ 999
  len : g.wires.length ≤ 10
  bit : 0 ≤ g.bit ∧ g.bit ≤ 999
  ifn : 0 ≤ g.ifn ∧ g.ifn ≤ 1000
theorem wordK_len (k : Int) : (wordK k).length ≤ 7 := by
  unfold wordK
  cases hf : wordTab.find? (fun p => p.2 == k) with
  | none => simp
  | some p =>
    have h3 := List.mem_of_find?_eq_some hf
    have h4 : ∀ q ∈ wordTab, q.1.length ≤ 7 := by decide
    exact h4 p h3
theorem partsS_le {g : Gt} (h : Shows g) : ∀ x ∈ partsS g, x.length ≤ 1000000 := by
  intro x hx
  unfold partsS headS at hx
  have hi : ∀ n : Int, 0 ≤ n → n ≤ 1000 → (itoa n).length ≤ 21 := fun n h0 h1 => itoa_len n ⟨by omega, by omega⟩
  simp only [List.mem_append, List.mem_map, List.mem_singleton] at hx
  rcases hx with ((hx | rfl) | ⟨z, hz, rfl⟩) | hx
  · split at hx
    · simp only [List.mem_cons, List.not_mem_nil, or_false] at hx
      rcases hx with rfl | rfl
      · decide
      · rename_i h0
        have := hi (g.ifn - 1) (by omega) (by have := h.ifn; omega)
        rw [List.length_append]
        simp only [List.length_singleton]
        omega
    · cases hx
  · have := wordK_len g.kind; omega
  · have := hi z (h.wires z hz).1 (by have := (h.wires z hz).2; omega); omega
  · split at hx
    · rw [List.mem_singleton.1 hx]
      have := hi g.bit h.bit.1 (by have := h.bit.2; omega); omega
    · cases hx
structure SSt (w wx : World) (Bl : Nat) (k wv b f lv : Value) (xs : List (List UInt8)) : Prop where
  g : Blk wx w.heap.size 61 #[k, wv, b, f]
  l : Blk wx Bl 29 #[lv]
  row : wx.ownsRow w.heap.size 9 1 lv xs.length (strC xs)
  kept : Below w.heap.size w wx
  tabs : Tabs wx
  hB : w.heap.size ≤ Bl
theorem SSt.below {w wx w' : World} {Bl : Nat} {k wv b f lv : Value} {xs : List (List UInt8)} (h : SSt w wx Bl k wv b f lv xs) (hb : Below wx.heap.size wx w') : SSt w w' Bl k wv b f lv xs :=
  ⟨h.g.below hb h.g.lt, h.l.below hb h.l.lt, own_below h.row hb (Nat.le_refl _), bt hb h.kept h.kept.size, h.tabs.below hb, h.hB⟩
theorem SSt.more {w wx w' : World} {Bl : Nat} {k wv b f lv lv' : Value} {xs : List (List UInt8)} {s : List UInt8} (h : SSt w wx Bl k wv b f lv xs) (h1 : Blk w' Bl 29 #[lv']) (h2 : w'.ownsRow w.heap.size 9 1 lv' (xs.length + 1) (strC (xs ++ [s])))
    (h3 : KeptT 9 w.heap.size Bl wx w') (h4 : Tabs w') : SSt w w' Bl k wv b f lv' (xs ++ [s]) :=
  ⟨(h3.block _ h.g.lt (h.g.ne_ h.l (by decide)) (.inr fun cs hc => h.g.ne_ hc (by decide) rfl)).trans h.g, h1, by rw [List.length_append]; exact h2, (h.kept.trans (h3.below h.hB h.kept.size)), h4, h.hB⟩
theorem own_cell {w : World} {base n c g : Nat} {e : TypeId} {xs : List Value} (h : w.ownsRow base e 1 (.slice (some ⟨g, 0, none⟩) n c) n xs) {j : Nat} {u : Value} (hj : xs[j]? = some u) (hn : xs.length = n) : w.cell? ⟨g, j, none⟩ = some u := by
  rcases h.2 with ⟨h1, _⟩ | ⟨g', cap, cur, h1, _, hg, _, _, _, htk⟩
  · cases h1
  · have e1 : g = g' := by injection h1 with h1; injection h1 with h1; injection h1
    subst e1
    have hjl : j < n := by
      rcases Nat.lt_or_ge j xs.length with h | h
      · omega
      · rw [List.getElem?_eq_none h] at hj; cases hj
    have e2 : (cur.toList.take (n * 1))[j]? = xs[j]? := by rw [htk]
    rw [List.getElem?_take, if_pos (by omega), hj] at e2
    exact (cell_of_row w g _ cur _ (0, 0) hg).trans (by simpa using e2)
theorem SSt.lit {w wx : World} {Bl : Nat} {k wv b f lv : Value} {xs : List (List UInt8)} (h : SSt w wx Bl k wv b f lv xs) (hF : Far Bl) (ys : List (List UInt8)) (hy : ys.length ≤ 1000) :
    SSt w ((wx.alloc (.cells (strC ys).toArray 9)).setCell ⟨Bl, 0, none⟩ (.slice (some ⟨wx.heap.size, 0, none⟩) ys.length ys.length)) Bl k wv b f (.slice (some ⟨wx.heap.size, 0, none⟩) ys.length ys.length) ys := by
  have h1 := h.below (below1 wx (.cells (strC ys).toArray 9))
  have hg : (wx.alloc (.cells (strC ys).toArray 9)).grownBy ((wx.alloc (.cells (strC ys).toArray 9)).setCell ⟨Bl, 0, none⟩ (.slice (some ⟨wx.heap.size, 0, none⟩) ys.length ys.length)) (some Bl) := grown_set ⟨rfl, rfl, rfl, Nat.le_refl _, fun _ _ _ => rfl⟩ 0 _
  have hl := World.ownsRow_lit (base := w.heap.size) (e := 9) (size := 1) wx (strC ys).toArray ys.length h.kept.size (by unfold maxLen; omega) (by simp [strC])
  exact ⟨h1.g.far (h1.g.ne_ h1.l (by decide)) _, h1.l.set_ 0 _, by simpa using hl.kept hg (.inr (own_blk_ne hl h1.l (by decide))), h1.kept.setCell h.hB _, h1.tabs.set hF, h.hB⟩
set_option maxRecDepth 100000 in
set_option maxHeartbeats 8000000 in
theorem shown_calls (g : Gt) (hs : Shows g) (wv : Value) (B : Nat) (w : World) (hB : B ≤ w.heap.size) (hv : IntsAt w B wv g.wires) (ht : Tabs w) :
    Calls Tryz.prog 49 #[.agg #[.int .i64 g.kind, wv, .int .i64 g.bit, .int .i64 g.ifn]] w fun e w' => e = .returned (.string (bs (shownP g))) ∧ Below w.heap.size w w' := by
  have HS := Lib.hid hs
  have HP := Lib.hid (partsS_le hs)
  have HF := Lib.hid (fun g (hg : w.heap.size ≤ g) => ht.far hg)
  have Ht := Lib.hid ht
  have Hv := Lib.hid hv
  obtain ⟨A, c, rfl, hnc, hcm, hcell⟩ := hv.form
  have Hcell := Lib.hid hcell
  have hfn := hs.ifn.1
  have hfn2 := hs.ifn.2
  have hwl := hs.len
  have HW := Lib.hid (fun W => word_calls g.kind W)
  have hh1 := wordK_len g.kind
  clear ht hv hs hcell
  unfold maxLen at hcm
  go_enter Tryz.func49, Tryz.ntmps49
  go_wp2_with fail
  refine (HW.out _).mono ?_
  rintro e w1 ⟨rfl, hb1⟩
  have h0 : SSt w ((w1.alloc (.cells #[.string (bs (wordK g.kind))] 9)).alloc (.cells #[.slice (some ⟨w1.heap.size, 0, none⟩) 1 1] 29)) (w1.heap.size + 1) (.int .i64 g.kind) (.slice A g.wires.length c) (.int .i64 g.bit) (.int .i64 g.ifn) (.slice (some ⟨w1.heap.size, 0, none⟩) 1 1) [wordK g.kind] := by
    have hW : Below w.heap.size w w1 := bt hb1 (below1 _ _) (by simp)
    have hk : Below w.heap.size w ((w1.alloc (.cells #[.string (bs (wordK g.kind))] 9)).alloc (.cells #[.slice (some ⟨w1.heap.size, 0, none⟩) 1 1] 29)) := bt (below2 _ _ _) hW hW.size
    have hg : Blk w1 w.heap.size 61 _ := (Blk.new w _ _).below hb1 (by simp)
    refine ⟨(hg.alloc _).alloc _, Blk.at_ _ _ _ (by simp), ?_, hk, Ht.out.below hk, by have := hW.size; omega⟩
    have hl := World.ownsRow_lit (base := w.heap.size) (e := 9) (size := 1) w1 #[.string (bs (wordK g.kind))] 1 hW.size (by unfold maxLen; omega) (by simp)
    exact own_below hl (below1 _ _) (Nat.le_refl _)
  obtain ⟨y0, y1, y2, y3, yf⟩ := h0.g.cells4
  go_upto_if 13 with fail
  generalize (w1.alloc (.cells #[.string (bs (wordK g.kind))] 9)).alloc (.cells #[.slice (some ⟨w1.heap.size, 0, none⟩) 1 1] 29) = wa at *
  generalize w1.heap.size + 1 = Bl at *
  clear y0 y1 y2 y3 yf
  go_cut [] (fun wx => ∃ lv, SSt w wx Bl (.int .i64 g.kind) (.slice A g.wires.length c) (.int .i64 g.bit) (.int .i64 g.ifn) lv (headS g))
  case first =>
    by_cases hf : 0 < g.ifn
    · have Hh : Hid (headS g = [[105, 102], itoa (g.ifn - 1) ++ [58], wordK g.kind]) := by show _ = _; unfold headS; rw [if_pos hf]; rfl
      have hsub : IntKind.i64.wrap (g.ifn - 1) = g.ifn - 1 := IntWalk.i64_in _ (by omega)
      have HI := Lib.hid (fun W (h : Tabs W) => Itoa_calls (g.ifn - 1) (by omega) W h)
      have hcc : ¬ 9223372036854775807 < (bs (itoa (g.ifn - 1))).size + 1 := by have := itoa_len (g.ifn - 1) (by omega); rw [bs_size]; omega
      have k0 : wa.cell? ⟨w1.heap.size, 0, none⟩ = some (.string (bs (wordK g.kind))) := own_cell h0.row (j := 0) rfl rfl
      have hk0 : w1.heap.size < wa.heap.size := World.block_lt_of_cell? wa ⟨w1.heap.size, 0, none⟩ k0
      have l0 : wa.cell? ⟨Bl, 0, none⟩ = some (.slice (some ⟨w1.heap.size, 0, none⟩) 1 1) := h0.l.cell 0
      have hd := h0.below ((Below.refl _ _).drew)
      have lf : ∀ i, wa.frozen? ⟨Bl, i, none⟩ = false := h0.l.frozen
      obtain ⟨y0, y1, y2, y3, yf⟩ := h0.g.cells4
      go_wp2_with fail
      go_region_law (go_simp; go_at_call 47; (with_reducible refine (HI.out _ hd.tabs).mono ?_); rintro e w3 ⟨rfl, hb3⟩; have h3 := hd.below hb3; have lf1 : ∀ o, (w3.alloc o).frozen? ⟨Bl, 0, none⟩ = false := (fun o => (h3.l.alloc o).frozen 0); have k3 : w3.cell? ⟨w1.heap.size, 0, none⟩ = some (.string (bs (wordK g.kind))) := (hb3.cell (p := ⟨w1.heap.size, 0, none⟩) hk0).trans k0; clear k0 l0 lf y0 y1 y2 y3 yf; have k0 := k3; have l0 : w3.cell? ⟨Bl, 0, none⟩ = some (.slice (some ⟨w1.heap.size, 0, none⟩) 1 1) := h3.l.cell 0; have l1 : ∀ o, (w3.alloc o).cell? ⟨Bl, 0, none⟩ = some (.slice (some ⟨w1.heap.size, 0, none⟩) 1 1) := (fun o => (World.cell?_alloc_lt _ _ _ h3.l.lt).trans l0); have lf : ∀ i, w3.frozen? ⟨Bl, i, none⟩ = false := h3.l.frozen; obtain ⟨y0, y1, y2, y3, yf⟩ := h3.g.cells4)
      all_goals
        have H3 := Lib.hid h3
        clear h3 k0 l0 l1 lf lf1 y0 y1 y2 y3 yf
        go_wp2_with fail
        go_meet
        rw [Hh.out, show bs (itoa (g.ifn - 1)) ++ (⟨#[58]⟩ : ByteArray) = bs (itoa (g.ifn - 1) ++ [58]) from bs_append _ [58]]
        exact ⟨_, H3.out.lit (HF.out _ H3.out.hB) [[105, 102], itoa (g.ifn - 1) ++ [58], wordK g.kind] (by simp)⟩
    · have Hh : Hid (headS g = [wordK g.kind]) := by show _ = _; unfold headS; rw [if_neg hf]; rfl
      go_wp2_with fail
      go_meet
      rw [Hh.out]
      exact ⟨_, h0⟩
  case rest =>
    clear h0
    obtain ⟨lv, h1⟩ := hcut
    obtain ⟨y0, y1, y2, y3, yf⟩ := h1.g.cells4
    go_upto_block 0 with fail
    clear y0 y1 y2 y3 yf
    have hh3 := headS_len g
    go_wp2_with fail
    go_loopg [27] g.wires.length (fun gk i wr => ∃ (j : Nat) (lv : Value), j + gk = g.wires.length ∧ i = .int .i64 j ∧ SSt w wr Bl (.int .i64 g.kind) (.slice A g.wires.length c) (.int .i64 g.bit) (.int .i64 g.ifn) lv (headS g ++ (g.wires.take j).map itoa))
    case atStart => exact ⟨0, lv, by omega, rfl, by simpa using h1⟩
    case round =>
      clear h1
      obtain ⟨j, lv, hj, rfl, h1⟩ := hrel
      cases gk with
      | zero =>
        obtain rfl : j = g.wires.length := by omega
        rw [List.take_length] at h1
        obtain ⟨y0, y1, y2, y3, yf⟩ := h1.g.cells4
        go_upto_if 37 with fail
        clear y0 y1 y2 y3 yf
        go_cut [] (fun wx => ∃ lv, SSt w wx Bl (.int .i64 g.kind) (.slice A g.wires.length c) (.int .i64 g.bit) (.int .i64 g.ifn) lv (partsS g))
        case first =>
          by_cases hk : g.kind = 13
          · have Hp : Hid (partsS g = (headS g ++ g.wires.map itoa) ++ [itoa g.bit]) := by show _ = _; unfold partsS; rw [if_pos hk]
            have hk2 : (g.kind == 13) = true := by simpa using hk
            have HC := Lib.hid (shown1_calls g.bit (by have := HS.out.bit; omega) Bl lv (headS g ++ g.wires.map itoa) (by simp; omega) w.heap.size _ h1.hB h1.l h1.row h1.tabs HF.out)
            obtain ⟨y0, y1, y2, y3, yf⟩ := h1.g.cells4
            have H1 := Lib.hid h1
            clear h1 hk
            go_wp2_with fail
            refine HC.out.mono ?_
            rintro e w2 ⟨lv', rfl, h1, h2, h3, h4⟩
            have h5 := H1.out.more h1 h2 h3 h4
            clear h1 h2 h3 h4 y0 y1 y2 y3 yf
            go_wp2_with fail
            go_meet
            rw [Hp.out]
            exact ⟨lv', h5⟩
          · have Hp : Hid (partsS g = headS g ++ g.wires.map itoa) := by show _ = _; unfold partsS; rw [if_neg hk]; simp
            have hk2 : (g.kind == 13) = false := by simpa using hk
            clear hk
            go_wp2_with fail
            go_meet
            rw [Hp.out]
            exact ⟨lv, h1⟩
        case rest =>
          clear h1
          obtain ⟨lv, h1⟩ := hcut
          have hpl : (partsS g).length ≤ 1000 := by unfold partsS; split <;> simp <;> omega
          have hcc : ¬ 9223372036854775807 < (bs (Lib.join (partsS g) [32])).size + 1 := by
            have := join_len [32] (by decide) (partsS g) HP.out
            have h3 : (partsS g).length * 1000010 ≤ 1000 * 1000010 := Nat.mul_le_mul_right _ hpl
            rw [bs_size]; omega
          have y0 := h1.l.cell 0
          have yf := h1.l.frozen
          simp at y0
          have HJ := Lib.hid (joined_calls (partsS g) (by unfold partsS headS; simp) hpl HP.out w.heap.size lv _ h1.row)
          have hk := h1.kept
          go_wp2_with fail
          refine HJ.out.mono ?_
          rintro e w2 ⟨rfl, hb2⟩
          go_wp2_with fail
          go_ret
          exact ⟨by rw [← shownP_join, ← bs_append]; rfl, bt hb2 hk hk.size⟩
      | succ gn =>
        have hjl : j < g.wires.length := by omega
        obtain ⟨gl, o, rfl, hgl, hc⟩ := Hcell.out (by intro h; rw [h] at hjl; simp at hjl)
        have hgl2 : gl < w.heap.size := by omega
        have c0 := (h1.kept.cell (p := ⟨gl, o + j, none⟩) hgl2).trans (hc j hjl)
        have hz := HS.out.wires (g.wires.getD j 0) (by rw [List.getD_eq_getElem?_getD, List.getElem?_eq_getElem hjl]; exact List.getElem_mem _)
        have Hx : Hid (headS g ++ (g.wires.take (j + 1)).map itoa = (headS g ++ (g.wires.take j).map itoa) ++ [itoa (g.wires.getD j 0)]) := by
          show _ = _
          rw [List.take_succ_eq_append_getElem hjl, List.getD_eq_getElem?_getD, List.getElem?_eq_getElem hjl, List.map_append, ← List.append_assoc]; rfl
        have hjl1 : (j : Int) < (g.wires.length : Int) := by omega
        have hjl0 : (0 : Int) ≤ (j : Int) := by omega
        have HC := Lib.hid (shown1_calls (g.wires.getD j 0) (by omega) Bl lv (headS g ++ (g.wires.take j).map itoa) (by rw [List.length_append, List.length_map, List.length_take]; omega) w.heap.size _ h1.hB h1.l h1.row h1.tabs HF.out)
        have H1 := Lib.hid h1
        clear h1 hc hgl hgl2 hz
        generalize g.wires.getD j 0 = z at *
        go_wp2_with fail
        refine HC.out.mono ?_
        rintro e w2 ⟨lv', rfl, h1, h2, h3, h4⟩
        have h5 := H1.out.more h1 h2 h3 h4
        rw [← Hx.out] at h5
        clear h1 h2 h3 h4 HC H1
        go_wp2_with fail
        go_roundg gn
        case measure => omega
        case rel => exact ⟨j + 1, lv', by omega, by go_num, h5⟩
end Go.Proofs.YtonnegkpjmhomaaGreatDoor
end
section
namespace Go.Proofs.YtonnegkpjmhomaaGreatDoor
open Go.RowKit
theorem arity_le (k : Int) : 0 ≤ arity k ∧ arity k ≤ 3 := by unfold arity; repeat' split
                                                             all_goals omega
theorem chkG_shows {W Bt : Int} {g : Gt} (hW : W ≤ 12) (hB : Bt ≤ 8) (h : chkG W Bt g = 0) : Shows g := by
  unfold chkG at h
  have ha := arity_le g.kind
  split at h; · omega
  split at h; · omega
  rename_i h2
  split at h; · omega
  rename_i h3
  split at h; · omega
  split at h; · omega
  rename_i h5
  split at h; · omega
  rename_i h6
  rw [Bool.not_eq_false, List.all_eq_true] at h3
  refine ⟨fun x hx => ?_, by omega, ?_, by omega⟩
  · have := h3 x hx
    simp only [wireB, Bool.and_eq_true, decide_eq_true_eq] at this
    omega
  · by_cases hk : g.kind = 13
    · omega
    · omega
theorem chkGs_all {W Bt : Int} : ∀ {gs : List Gt}, chkGs W Bt gs = 0 → ∀ g ∈ gs, chkG W Bt g = 0
  | [], _, g, h => by cases h
  | x :: l, h, g, hg => by
    rw [chkGs_cons] at h
    by_cases hx : chkG W Bt x = 0
    · rw [if_pos hx] at h
      rcases List.mem_cons.1 hg with rfl | hg
      · exact hx
      · exact chkGs_all h g hg
    · rw [if_neg hx] at h; exact absurd h hx
theorem chkC_zero {W Bt : Int} {gs : List Gt} (h : chkC ⟨W, Bt, gs⟩ = 0) : 1 ≤ W ∧ W ≤ 12 ∧ 0 ≤ Bt ∧ Bt ≤ 8 ∧ gs.length ≤ 120 ∧ ∀ g ∈ gs, Shows g := by
  unfold chkC at h
  dsimp only at h
  split at h; · omega
  split at h; · omega
  exact ⟨by omega, by omega, by omega, by omega, by omega, fun g hg => chkG_shows (by omega) (by omega) (chkGs_all h g hg)⟩
theorem shownP_len {g : Gt} (h : Shows g) : (shownP g).length ≤ 20000000 := by
  rw [← shownP_join]
  have h1 := join_len [32] (by decide) (partsS g) (partsS_le h)
  have h2 : (partsS g).length ≤ 15 := by
    have := headS_len g
    have := h.len
    unfold partsS; split <;> simp <;> omega
  have h3 : (partsS g).length * 1000010 ≤ 15 * 1000010 := Nat.mul_le_mul_right _ h2
  rw [List.length_append, List.length_singleton]; omega
def lineS (c : Ct) : List (List UInt8) := [[119, 105, 114, 101, 115], itoa c.wires] ++ (if 0 < c.bits then [[98, 105, 116, 115], itoa c.bits] else [])
theorem printP_join (c : Ct) : printP c = (Lib.join (lineS c) [32] ++ [59, 10]) ++ c.gates.flatMap (fun g => shownP g ++ [10]) := by
  unfold printP lineS
  by_cases h1 : 0 < c.bits <;> simp [h1, join_cons]
theorem gates_len {gs : List Gt} (h : ∀ g ∈ gs, Shows g) : (gs.flatMap (fun g => shownP g ++ [10])).length ≤ gs.length * 20000001 := by
  induction gs with
  | nil => simp
  | cons g gs ih =>
    have h1 := shownP_len (h g (by simp))
    have h2 := ih (fun x hx => h x (by simp [hx]))
    rw [List.flatMap_cons, List.length_append, List.length_append]
    simp only [List.length_cons, List.length_nil]
    omega
theorem own_row_le {n m c g k : Nat} (hz : n ≤ g) (e : (Value.slice (some ⟨g, 0, none⟩) m c).ownBlock = some k) : n ≤ k := by
  have e2 : g = k := by simpa [Value.ownBlock] using e
  omega
set_option maxRecDepth 100000 in
set_option maxHeartbeats 8000000 in
theorem Print_calls (W Bt : Int) (gv : Value) (gs : List Gt) (B : Nat) (w : World) (hB : B ≤ w.heap.size) (hv : GatesAt w B gv gs) (hw : ∀ g ∈ gs, g.wires.length ≤ 1000000) (ht : Tabs w) :
    Calls Tryz.prog 16 #[.agg #[.int .i64 W, .int .i64 Bt, gv]] w fun e w' => e = .returned (.tuple #[.string (bs (sPrint ⟨W, Bt, gs⟩).1), .int .i64 (sPrint ⟨W, Bt, gs⟩).2]) ∧ Below w.heap.size w w' := by
  obtain ⟨A, c, rfl, hnc, hcm, hc3⟩ := hv.form
  have Hc3 := Lib.hid hc3
  have Hv := Lib.hid hv
  have Ht := Lib.hid ht
  have hb0 := below1 w (.cells #[.int .i64 W, .int .i64 Bt, .slice A gs.length c] 25)
  have HC := Lib.hid (Check_calls W Bt (.slice A gs.length c) gs B (w.alloc (.cells #[.int .i64 W, .int .i64 Bt, .slice A gs.length c] 25)) (by simp; omega) (hv.below (hb0.mono hB)) hw)
  have hx0 := Blk.new w 25 #[.int .i64 W, .int .i64 Bt, .slice A gs.length c]
  have Hz := Lib.hid (chkC_zero (W := W) (Bt := Bt) (gs := gs))
  have Hp : Hid (sPrint ⟨W, Bt, gs⟩ = if chkC ⟨W, Bt, gs⟩ = 0 then (printP ⟨W, Bt, gs⟩, 0) else ([], chkC ⟨W, Bt, gs⟩)) := rfl
  rw [Hp.out]
  clear hv hc3 ht Hp
  unfold maxLen at hcm
  generalize chkC ⟨W, Bt, gs⟩ = er at *
  by_cases he : er = 0
  · subst he
    obtain ⟨z1, z2, z3, z4, z5, z6⟩ := Hz.out rfl
    have HS := Lib.hid z6
    clear z6 Hz
    rw [if_pos rfl]
    obtain ⟨H, HH⟩ : ∃ H, Hid (Lib.join (lineS ⟨W, Bt, gs⟩) [32] ++ [59, 10] = H) := ⟨Lib.join (lineS ⟨W, Bt, gs⟩) [32] ++ [59, 10], rfl⟩
    rw [printP_join, HH.out]
    dsimp only
    have HI := Lib.hid (fun W' (h : Tabs W') => Itoa_calls W (by omega) W' h)
    have HI2 := Lib.hid (fun W' (h : Tabs W') => Itoa_calls Bt (by omega) W' h)
    go_enter Tryz.func16, Tryz.ntmps16
    go_wp2_with fail
    refine HC.out.mono ?_
    rintro e w1 ⟨rfl, hb1⟩
    have hx := hx0.below hb1 hx0.lt
    have hW := bt hb1 hb0 hb0.size
    clear hx0 hb0 hb1 HC
    have y0 := hx.cell 0
    have y1 := hx.cell 1
    have y2 := hx.cell 2
    simp at y0 y1 y2
    go_wp2_with fail
    refine (HI.out _ (Ht.out.below hW)).mono ?_
    rintro e w2 ⟨rfl, hb2⟩
    have hx := hx.below hb2 hx.lt
    have hW := bt hb2 hW hW.size
    clear y0 y1 y2 hb2
    have hx2 := hx.alloc (.cells #[.string ⟨#[119, 105, 114, 101, 115]⟩, .string (bs (itoa W))] 9)
    have hl2 : (w2.alloc (.cells #[.string ⟨#[119, 105, 114, 101, 115]⟩, .string (bs (itoa W))] 9)).ownsRow w.heap.size 9 1 (.slice (some ⟨w2.heap.size, 0, none⟩) 2 2) 2 (strC [[119, 105, 114, 101, 115], itoa W]) := World.ownsRow_lit (base := w.heap.size) (e := 9) (size := 1) w2 #[.string ⟨#[119, 105, 114, 101, 115]⟩, .string (bs (itoa W))] 2 hW.size (by unfold maxLen; omega) (by simp)
    have hW2 := bt (below1 w2 (.cells #[.string ⟨#[119, 105, 114, 101, 115]⟩, .string (bs (itoa W))] 9)) hW hW.size
    have hz2 := hW.size
    have y0 := hx2.cell 0
    have y1 := hx2.cell 1
    have y2 := hx2.cell 2
    simp at y0 y1 y2
    go_upto_if 19 with fail
    generalize w2.alloc (.cells #[.string ⟨#[119, 105, 114, 101, 115]⟩, .string (bs (itoa W))] 9) = wa at *
    clear y0 y1 y2 hx hW
    go_cut [5] (fun s wx => Blk wx w.heap.size 25 #[.int .i64 W, .int .i64 Bt, .slice A gs.length c] ∧ wx.ownsRow w.heap.size 9 1 s (lineS ⟨W, Bt, gs⟩).length (strC (lineS ⟨W, Bt, gs⟩)) ∧ Below w.heap.size w wx)
    case first =>
      by_cases hBt : 0 < Bt
      · have Hl : Hid (lineS ⟨W, Bt, gs⟩ = [[119, 105, 114, 101, 115], itoa W] ++ [[98, 105, 116, 115], itoa Bt]) := by show _ = _; unfold lineS; rw [if_pos hBt]
        have y0 := hx2.cell 0
        have y1 := hx2.cell 1
        have y2 := hx2.cell 2
        simp at y0 y1 y2
        obtain ⟨i0, hinf, hz0, hz1, hz3⟩ := info_parts infoString
        go_wp2_with fail
        refine (HI2.out _ (Ht.out.below hW2)).mono ?_
        rintro e w3 ⟨rfl, hb3⟩
        have hx3 := hx2.below hb3 hx2.lt
        have hl3 := own_below hl2 hb3 (Nat.le_refl _)
        have hW3 := bt hb3 hW2 hW2.size
        have hz3' := hW3.size
        clear y0 y1 y2 hb3 hx2 hl2 hW2
        have hx4 := hx3.alloc (.cells #[.string ⟨#[98, 105, 116, 115]⟩, .string (bs (itoa Bt))] 9)
        have hl4 := own_below hl3 (below1 w3 (.cells #[.string ⟨#[98, 105, 116, 115]⟩, .string (bs (itoa Bt))] 9)) (Nat.le_refl _)
        have hW4 := bt (below1 w3 (.cells #[.string ⟨#[98, 105, 116, 115]⟩, .string (bs (itoa Bt))] 9)) hW3 hW3.size
        go_wp2_with (at_builtin; refine wpList_append_own _ rfl _ _ 29 rfl w.heap.size 9 i0 _ 1 16 Tryz.underlying29 hinf hz0 hz1 hz3 rfl (by decide) _ _ _ rfl hl4 ⟨w3.heap.size, 0, none⟩ 2 2 [.string ⟨#[98, 105, 116, 115]⟩, .string (bs (itoa Bt))] rfl rfl (row_new _ _ _) (by simp [Value.oneCell']) (by unfold maxLen; omega) (by omega) (by simp; omega) ?_; intro v' w5 hown' hgrow _)
        go_meet
        rw [Hl.out]
        refine ⟨hx4.grown hgrow (own_blk_ne hl4 hx4 (by decide)).symm, ?_, hW4.grown hgrow hW4.size (fun k e => own_row_le hz2 e)⟩
        rw [show strC ([[119, 105, 114, 101, 115], itoa W] ++ [[98, 105, 116, 115], itoa Bt]) = strC [[119, 105, 114, 101, 115], itoa W] ++ [.string ⟨#[98, 105, 116, 115]⟩, .string (bs (itoa Bt))] from rfl]
        exact hown'
      · have Hl : Hid (lineS ⟨W, Bt, gs⟩ = [[119, 105, 114, 101, 115], itoa W]) := by show _ = _; unfold lineS; rw [if_neg hBt]; rfl
        go_wp2_with fail
        go_meet
        rw [Hl.out]
        exact ⟨hx2, hl2, hW2⟩
    case rest =>
      clear hx2 hl2 hW2
      obtain ⟨hx, hl, hW⟩ := hcut
      have hll : (lineS ⟨W, Bt, gs⟩).length ≤ 4 := by unfold lineS; split <;> simp
      have hle : ∀ x ∈ lineS ⟨W, Bt, gs⟩, x.length ≤ 1000000 := by
        have i1 := itoa_len W (by omega)
        have i2 := itoa_len Bt (by omega)
        intro x hx
        unfold lineS at hx
        rcases List.mem_append.1 hx with hx | hx
        · simp only [List.mem_cons, List.not_mem_nil, or_false] at hx
          rcases hx with rfl | rfl
          · decide
          · omega
        · split at hx
          · simp only [List.mem_cons, List.not_mem_nil, or_false] at hx
            rcases hx with rfl | rfl
            · decide
            · exact Nat.le_trans i2 (by decide)
          · cases hx
      have HJ := Lib.hid (joined_calls (lineS ⟨W, Bt, gs⟩) (by unfold lineS; simp) (by omega) hle w.heap.size u5 wc hl)
      have hjl := join_len [32] (by decide) (lineS ⟨W, Bt, gs⟩) hle
      have hcc : ¬ 9223372036854775807 < (bs (Lib.join (lineS ⟨W, Bt, gs⟩) [32])).size + 2 := by rw [bs_size]; omega
      go_wp2_with fail
      refine HJ.out.mono ?_
      rintro e w6 ⟨rfl, hb6⟩
      have hx := hx.below hb6 hx.lt
      have hW := bt hb6 hW hW.size
      clear HJ hb6 hl
      have y2 := hx.cell 2
      simp at y2
      have hhl : H.length ≤ 5000000 := by rw [← HH.out, List.length_append]; simp only [List.length_cons, List.length_nil]; omega
      have hcat0 : bs (Lib.join (lineS ⟨W, Bt, gs⟩) [32]) ++ (⟨#[59, 10]⟩ : ByteArray) = bs H := by rw [← HH.out]; exact bs_append _ _
      go_wp2_with fail
      clear hcc hjl hll hle y2
      go_loopg [6, 32] gs.length (fun gk s i wr => ∃ n : Nat, n + gk = gs.length ∧ i = .int .i64 n ∧ s = .string (bs (H ++ (gs.take n).flatMap (fun g => shownP g ++ [10]))) ∧ Blk wr w.heap.size 25 #[.int .i64 W, .int .i64 Bt, .slice A gs.length c] ∧ Below w.heap.size w wr)
      case atStart => exact ⟨0, by omega, rfl, by simp, hx, hW⟩
      case round =>
        clear hx hW
        obtain ⟨n, hn, rfl, rfl, hx, hW⟩ := hrel
        cases gk with
        | zero =>
          obtain rfl : n = gs.length := by omega
          rw [List.take_length]
          go_wp2_with fail
          go_ret2
          exact ⟨rfl, hW⟩
        | succ gk =>
          have hlt : n < gs.length := by omega
          obtain ⟨b, o, rfl, hb, hcell⟩ := Hc3.out (by intro h; rw [h] at hlt; simp at hlt)
          obtain ⟨g, Hg, hgm⟩ : ∃ g, Hid (gs.take (n + 1) = gs.take n ++ [g]) ∧ gs[n]? = some g := ⟨gs[n], List.take_succ_eq_append_getElem hlt, List.getElem?_eq_getElem hlt⟩
          obtain ⟨wv, hwv, c0, c1, c2, c3⟩ := hcell n g hgm
          have hbw : b < w.heap.size := by omega
          have hsh := HS.out g (List.mem_of_getElem? hgm)
          have c0 := (hW.cell (p := ⟨b, o + n * 4, none⟩) hbw).trans c0
          have c1 := (hW.cell (p := ⟨b, o + n * 4 + 1, none⟩) hbw).trans c1
          have c2 := (hW.cell (p := ⟨b, o + n * 4 + 2, none⟩) hbw).trans c2
          have c3 := (hW.cell (p := ⟨b, o + n * 4 + 3, none⟩) hbw).trans c3
          obtain ⟨A2, d2, e2, _⟩ := hwv.form
          subst e2
          have y2 := hx.cell 2
          simp at y2
          have HSh := Lib.hid (shown_calls g hsh (.slice A2 g.wires.length d2) B wr (Nat.le_trans hB hW.size) (hwv.below (hW.mono hB)) (Ht.out.below hW))
          have hnl1 : (n : Int) < (gs.length : Int) := by omega
          have hnl0 : (0 : Int) ≤ (n : Int) := by omega
          have l1 := shownP_len hsh
          have l2 := gates_len (gs := gs.take n) (fun x hx => HS.out x (List.mem_of_mem_take hx))
          have l3 : (gs.take n).length ≤ 120 := by rw [List.length_take]; omega
          have l4 : (gs.take n).length * 20000001 ≤ 120 * 20000001 := Nat.mul_le_mul_right _ l3
          have hc1 : ¬ 9223372036854775807 < (bs (shownP g)).size + 1 := by rw [bs_size]; omega
          have hc2 : ¬ 9223372036854775807 < (bs (H ++ (gs.take n).flatMap (fun g => shownP g ++ [10]))).size + (bs (shownP g ++ [10])).size := by
            rw [bs_size, bs_size, List.length_append, List.length_append]; simp only [List.length_singleton]; omega
          have hcat : bs (shownP g) ++ (⟨#[10]⟩ : ByteArray) = bs (shownP g ++ [10]) := bs_append _ _
          have Hfin : Hid (bs (H ++ (gs.take n).flatMap (fun g => shownP g ++ [10])) ++ bs (shownP g ++ [10]) = bs (H ++ (gs.take (n + 1)).flatMap (fun g => shownP g ++ [10]))) := by
            show _ = _; rw [Hg.out, bs_append, List.flatMap_append, ← List.append_assoc]; simp
          clear hcell hwv hgm hsh l1 l2 l3 l4 Hg
          go_wp2_with fail
          refine HSh.out.mono ?_
          rintro e w7 ⟨rfl, hb7⟩
          have hx := hx.below hb7 hx.lt
          have hW := bt hb7 hW hW.size
          clear HSh hb7 c0 c1 c2 c3 y2
          go_wp2_with fail
          rw [Hfin.out]
          go_roundg gk
          case measure => omega
          case rel => exact ⟨n + 1, by omega, by go_num, rfl, hx, hW⟩
  · rw [if_neg he]
    have he0 : (er != 0) = true := by simpa using he
    clear he Hz
    go_enter Tryz.func16, Tryz.ntmps16
    go_wp2_with fail
    refine HC.out.mono ?_
    rintro e w1 ⟨rfl, hb1⟩
    go_wp2_with fail
    go_ret2
    exact ⟨rfl, bt hb1 hb0 hb0.size⟩
end Go.Proofs.YtonnegkpjmhomaaGreatDoor
end
section
namespace Go.Proofs.YtonnegkpjmhomaaGreatDoor
open Go.RowKit
theorem sRead_wires {l : List UInt8} : ∀ g ∈ (sRead l).1.gates, g.wires.length ≤ 3 := by
  intro g hg
  by_cases hl : 65536 < l.length
  · unfold sRead at hg; rw [if_pos hl] at hg; cases hg
  · rw [sRead_short hl] at hg
    unfold rdEnd at hg
    split at hg
    · cases hg
    · split at hg
      · cases hg
      · exact gatesP_wires hg
set_option maxRecDepth 100000 in
set_option maxHeartbeats 1000000 in
theorem Tidy_calls (l : List UInt8) (hl : l.length ≤ 1000000) (w : World) (ht : Tabs w) :
    Calls Tryz.prog 17 #[.string (bs l)] w fun e w' => e = .returned (.tuple #[.string (bs (sTidy l).1), .int .i64 (sTidy l).2.1, .int .i64 (sTidy l).2.2]) ∧ Below w.heap.size w w' := by
  have HR := Lib.hid (fun W (h : Tabs W) => Parse_calls l hl W h)
  have HT := Lib.hid ht
  have HG := Lib.hid (sRead_wires (l := l))
  obtain ⟨⟨⟨wi, bi, G⟩, sp, at_, er⟩, HS⟩ : ∃ r, Hid (sRead l = r) := ⟨_, rfl⟩
  have Hs : Hid (sTidy l = if er = 0 then ((sPrint ⟨wi, bi, G⟩).1, 0, (sPrint ⟨wi, bi, G⟩).2) else ([], at_, er)) := by show _ = _; unfold sTidy; rw [HS.out]
  rw [HS.out] at HR HG
  rw [Hs.out]
  clear ht HS Hs
  by_cases he : er = 0
  · subst he
    rw [if_pos rfl]
    go_enter Tryz.func17, Tryz.ntmps17
    go_wp2_with fail
    refine (HR.out _ HT.out).mono ?_
    rintro e w1 ⟨gv, gw, rfl, hg, hG, hb⟩
    have hga := (hG.below (below1 w1 (.cells #[.int .i64 wi, .int .i64 bi, gv] 25))).gates
    dsimp only at hg
    rw [hg] at hga
    obtain ⟨A, c, rfl⟩ := own_form hG.row
    have HP := Lib.hid (Print_calls wi bi (.slice A gw.length c) G _ _ (Nat.le_refl _) hga (fun g hg => Nat.le_trans (HG.out g hg) (by decide)) (HT.out.below (bt (below1 w1 (.cells #[.int .i64 wi, .int .i64 bi, .slice A gw.length c] 25)) hb hb.size)))
    go_wp2_with fail
    refine HP.out.mono ?_
    rintro e w2 ⟨rfl, hb2⟩
    go_wp2_with fail
    go_ret3
    exact ⟨rfl, bt hb2 (hb.alloc hb.size _) (by have := hb.size; simp; omega)⟩
  · rw [if_neg he]
    have he0 : (er != 0) = true := by simpa using he
    clear he
    go_enter Tryz.func17, Tryz.ntmps17
    go_wp2_with fail
    refine (HR.out _ HT.out).mono ?_
    rintro e w1 ⟨gv, gw, rfl, hg, hG, hb⟩
    obtain ⟨A, c, rfl⟩ := own_form hG.row
    go_wp2_with fail
    go_ret3
    exact ⟨rfl, hb.alloc hb.size _⟩
set_option maxRecDepth 100000 in
set_option maxHeartbeats 1000000 in
theorem changed_calls (l : List UInt8) (hl : l.length ≤ 1000000) (w : World) (ht : Tabs w) :
    Calls Tryz.prog 80 #[.string (bs l)] w fun e w' => e = .returned (.tuple #[.string (bs (sChanged l).1), .int .i64 (sChanged l).2]) ∧ Below w.heap.size w w' := by
  have HR := Lib.hid (fun W (h : Tabs W) => Parse_calls l hl W h)
  have HT := Lib.hid ht
  obtain ⟨⟨⟨wi, bi, G⟩, sp, at_, er⟩, HS⟩ : ∃ r, Hid (sRead l = r) := ⟨_, rfl⟩
  have Hs : Hid (sChanged l = if er ≠ 0 then ([], er) else (l, 0)) := by show _ = _; unfold sChanged; rw [HS.out]
  rw [HS.out] at HR
  rw [Hs.out]
  clear ht HS Hs
  by_cases he : er = 0
  · subst he
    rw [if_neg (by decide)]
    go_enter Tryz.func80, Tryz.ntmps80
    go_wp2_with fail
    refine (HR.out _ HT.out).mono ?_
    rintro e w1 ⟨gv, gw, rfl, hg, hG, hb⟩
    obtain ⟨A, c, rfl⟩ := own_form hG.row
    go_wp2_with fail
    go_ret2
    exact ⟨rfl, hb.alloc hb.size _⟩
  · rw [if_pos he]
    have he0 : (er != 0) = true := by simpa using he
    clear he
    go_enter Tryz.func80, Tryz.ntmps80
    go_wp2_with fail
    refine (HR.out _ HT.out).mono ?_
    rintro e w1 ⟨gv, gw, rfl, hg, hG, hb⟩
    obtain ⟨A, c, rfl⟩ := own_form hG.row
    go_wp2_with fail
    go_ret2
    exact ⟨rfl, hb.alloc hb.size _⟩
theorem spansC_get {sp : List (Nat × Nat)} {i : Nat} {p : Nat × Nat} (h : sp[i]? = some p) : (spansC sp)[i * 2]? = some (.int .i64 p.1) ∧ (spansC sp)[i * 2 + 1]? = some (.int .i64 p.2) := by
  induction sp generalizing i with
  | nil => cases h
  | cons q sp ih =>
    have e : spansC (q :: sp) = [.int .i64 q.1, .int .i64 q.2] ++ spansC sp := rfl
    rw [e]
    cases i with
    | zero =>
      obtain rfl : q = p := by simpa using h
      exact ⟨rfl, rfl⟩
    | succ i =>
      have := ih (i := i) (by simpa using h)
      rw [show (i + 1) * 2 = i * 2 + 2 by omega, List.getElem?_append_right (by simp), List.getElem?_append_right (by simp)]
      simpa using this
theorem spans_cells {w : World} {n0 : Nat} {sv : Value} {sp : List (Nat × Nat)} (h : w.ownsRow n0 95 2 sv sp.length (spansC sp)) {i : Nat} (hi : i < sp.length) :
    ∃ g c, sv = .slice (some ⟨g, 0, none⟩) sp.length c ∧ g < w.heap.size ∧ w.cell? ⟨g, i * 2, none⟩ = some (.int .i64 (sp.getD i (0, 0)).1) ∧ w.cell? ⟨g, i * 2 + 1, none⟩ = some (.int .i64 (sp.getD i (0, 0)).2) := by
  rcases h.2 with ⟨h1, h2⟩ | ⟨g, cap, cur, rfl, _, hg, hnc, hcm, hcs, htk⟩
  · exfalso
    omega
  · have hp := spansC_get (List.getElem?_eq_getElem hi)
    have e : sp.getD i (0, 0) = sp[i] := by rw [List.getD_eq_getElem?_getD, List.getElem?_eq_getElem hi]; rfl
    rw [e]
    have hh : w.ownsRow n0 95 2 (.slice (some ⟨g, 0, none⟩) sp.length cap) sp.length (spansC sp) := h
    exact ⟨g, cap, rfl, Blk.lt (t := 95) (cs := cur) hg, (hh.cellAt (i * 2) (by omega)).trans hp.1, (hh.cellAt (i * 2 + 1) (by omega)).trans hp.2⟩
set_option maxRecDepth 100000 in
set_option maxHeartbeats 2000000 in
theorem Where_calls (l : List UInt8) (hl : l.length ≤ 1000000) (k : Int) (w : World) (ht : Tabs w) :
    Calls Tryz.prog 20 #[.string (bs l), .int .i64 k] w fun e w' => e = .returned (.tuple #[.int .i64 (sWhere l k).1, .int .i64 (sWhere l k).2.1, .int .i64 (sWhere l k).2.2]) ∧ Below w.heap.size w w' := by
  have HR := Lib.hid (fun W (h : Tabs W) => read_calls l hl W h)
  have HT := Lib.hid ht
  obtain ⟨⟨⟨wi, bi, G⟩, sp, at_, er⟩, HS⟩ : ∃ r, Hid (sRead l = r) := ⟨_, rfl⟩
  have Hs : Hid (sWhere l k = if er ≠ 0 then (0, 0, er) else if k < 0 ∨ (sp.length : Int) ≤ k then (0, 0, 1) else (((sp.getD k.toNat (0, 0)).1 : Int), ((sp.getD k.toNat (0, 0)).2 : Int), 0)) := by show _ = _; unfold sWhere; rw [HS.out]
  rw [HS.out] at HR
  rw [Hs.out]
  clear ht HS Hs
  by_cases he : er = 0
  · subst he
    rw [if_neg (by decide)]
    by_cases hk : k < 0 ∨ (sp.length : Int) ≤ k
    · rw [if_pos hk]
      go_enter Tryz.func20, Tryz.ntmps20
      go_wp2_with fail
      refine (HR.out _ HT.out).mono ?_
      rintro e w1 ⟨gv, sv, gw, rfl, hg, hG, hsp, hb⟩
      obtain ⟨A, c, rfl⟩ := own_form hG.row
      obtain ⟨A2, c2, rfl⟩ := own_form hsp
      dsimp only
      rcases hk with hk | hk
      · have hkd : decide (k < 0) = true := decide_eq_true hk
        go_wp2_with fail
        go_ret3
        exact ⟨rfl, hb.alloc hb.size _⟩
      · by_cases hk0 : k < 0
        · exact absurd hk (by omega)
        · have hkd : decide (k < 0) = false := decide_eq_false hk0
          go_wp2_with fail
          go_ret3
          exact ⟨rfl, hb.alloc hb.size _⟩
    · rw [if_neg hk]
      obtain ⟨i, rfl⟩ : ∃ i : Nat, k = i := ⟨k.toNat, by omega⟩
      have hi : i < sp.length := by omega
      rw [Int.toNat_natCast]
      obtain ⟨p, Hp⟩ : ∃ p, Hid (sp.getD i (0, 0) = p) := ⟨sp.getD i (0, 0), rfl⟩
      rw [Hp.out]
      have hkd : decide ((i : Int) < 0) = false := decide_eq_false (by omega)
      have hk1 : ¬ (i : Int) < 0 := by omega
      have hk2 : ¬ (sp.length : Int) ≤ (i : Int) := by omega
      have hk3 : (i : Int) < (sp.length : Int) := by omega
      have hk4 : (0 : Int) ≤ (i : Int) := by omega
      clear hk
      go_enter Tryz.func20, Tryz.ntmps20
      go_wp2_with fail
      refine (HR.out _ HT.out).mono ?_
      rintro e w1 ⟨gv, sv, gw, rfl, hg, hG, hsp, hb⟩
      obtain ⟨A, c, rfl⟩ := own_form hG.row
      obtain ⟨gs, c2, rfl, hgs, k0, k1⟩ := spans_cells (sp := sp) hsp hi
      dsimp only
      rw [Hp.out] at k0 k1
      go_wp2_with fail
      go_quiet (fail)
      go_wp2_with fail
      go_ret3
      exact ⟨rfl, belowN (hb.alloc hb.size _) _⟩
  · rw [if_pos he]
    have he0 : (er != 0) = true := by simpa using he
    clear he
    go_enter Tryz.func20, Tryz.ntmps20
    go_wp2_with fail
    refine (HR.out _ HT.out).mono ?_
    rintro e w1 ⟨gv, sv, gw, rfl, hg, hG, hsp, hb⟩
    obtain ⟨A, c, rfl⟩ := own_form hG.row
    obtain ⟨A2, c2, rfl⟩ := own_form hsp
    go_wp2_with fail
    go_ret3
    exact ⟨rfl, hb.alloc hb.size _⟩
end Go.Proofs.YtonnegkpjmhomaaGreatDoor
end
section
namespace Go.Proofs.YtonnegkpjmhomaaGreatDoor
open Go.RowKit
theorem bs_extract_to (l : List UInt8) (k : Nat) : (bs l).extract 0 k = bs (l.take k) := by
  apply ByteArray.ext
  simp [bs, ByteArray.data_extract]
theorem bs_extract_from (l : List UInt8) (k n : Nat) (h : l.length ≤ n) : (bs l).extract k n = bs (l.drop k) := by
  apply ByteArray.ext
  simp only [bs, ByteArray.data_extract]
  apply Array.ext'
  simp only [Array.toList_extract, List.extract_eq_take_drop]
  rw [List.take_of_length_le (by rw [List.length_drop]; omega)]
theorem partsN_in : ∀ (f i : Nat) (l : List UInt8) (p : Part), p ∈ partsN f i l → p.at_ + 1 ≤ i + l.length
  | 0, _, _, p, h => by cases h
  | f + 1, i, l, p, h => by
    unfold partsN at h
    have hd2 : (l.drop (lay false l)).length = l.length - lay false l := by simp
    split at h
    · cases h
    · rename_i c r hcr
      rw [hcr] at hd2
      have hl := lay_le false l
      have h1 := nextP_at (i + lay false l) (c :: r)
      have h2 := nextP_le (i + lay false l) (c :: r)
      have h0 := nextP_pos (i + lay false l) c r
      simp only [] at h
      split at h
      · simp only [List.mem_singleton] at h
        subst h
        omega
      · simp only [List.mem_cons] at h
        rcases h with rfl | h
        · omega
        · have h3 := partsN_in f _ _ p h
          rw [List.length_drop, h1] at h3
          omega
theorem lookP_at {ps : List Part} {n i : Nat} (h : ∀ p ∈ ps, p.at_ + 1 ≤ n) : (lookP ps n i).at_ ≤ n := by
  unfold lookP
  rw [List.getD_eq_getElem?_getD]
  cases hp : ps[i]? with
  | none => exact Nat.le_refl _
  | some p => exact Nat.le_of_succ_le (h p (List.mem_of_getElem? hp))
theorem spanP_in {ps : List Part} {n : Nat} {s : St} (h : ∀ p ∈ ps, p.at_ + 1 ≤ n) (hw : (gateP ps n s).2.wrong < 0) : (spanP ps n s).1 ≤ n ∧ (spanP ps n s).2 ≤ n := by
  refine ⟨lookP_at h, ?_⟩
  obtain ⟨h1, h2⟩ := takeP_ok hw
  have h1 : (gateP ps n s).2.i = _ + 1 := h1
  show (lookP ps n ((gateP ps n s).2.i - 1)).at_ + 1 ≤ n
  rw [h1, Nat.add_sub_cancel]
  exact h _ (lookP_mem h2)
theorem gatesP_spans {ps : List Part} {n : Nat} (h : ∀ p ∈ ps, p.at_ + 1 ≤ n) : ∀ {f : Nat} {s : St} {q : Nat × Nat}, q ∈ (gatesP ps n f s).2.1 → q.1 ≤ n ∧ q.2 ≤ n
  | 0, _, _, hq => by cases hq
  | f + 1, s, q, hq => by
    rw [gatesP] at hq
    split at hq
    · cases hq
    · dsimp only at hq
      split at hq
      · exact gatesP_spans h hq
      · rcases List.mem_cons.1 hq with rfl | hq
        · exact spanP_in h (by omega)
        · exact gatesP_spans h hq
theorem sRead_spans {l : List UInt8} : ∀ q ∈ (sRead l).2.1, q.1 ≤ l.length ∧ q.2 ≤ l.length := by
  intro q hq
  by_cases hl : 65536 < l.length
  · unfold sRead at hq; rw [if_pos hl] at hq; cases hq
  · rw [sRead_short hl] at hq
    unfold rdEnd at hq
    split at hq
    · cases hq
    · split at hq
      · cases hq
      · exact gatesP_spans (fun p hp => by have := partsN_in _ _ _ p hp; omega) hq
theorem sWhere_ok {l : List UInt8} {k : Int} {f t : Int} (h : sWhere l k = (f, t, 0)) : ∃ a b : Nat, f = a ∧ t = b ∧ a ≤ l.length ∧ b ≤ l.length := by
  unfold sWhere at h
  split at h
  · rename_i h1; injection h with _ h; injection h with _ h; exact absurd h h1
  · split at h
    · injection h with _ h; injection h with _ h; cases h
    · rename_i h1 h2
      injection h with h3 h; injection h with h4 _
      refine ⟨_, _, h3.symm, h4.symm, ?_⟩
      have hm : (sRead l).2.1.getD k.toNat (0, 0) ∈ (sRead l).2.1 := by
        rw [List.getD_eq_getElem?_getD, List.getElem?_eq_getElem (by omega)]; exact List.getElem_mem _
      exact sRead_spans _ hm
set_option maxRecDepth 100000 in
set_option maxHeartbeats 4000000 in
theorem Put_calls (l u : List UInt8) (hl : l.length ≤ 200000) (hu : u.length ≤ 200000) (k : Int) (w : World) (ht : Tabs w) :
    Calls Tryz.prog 35 #[.string (bs l), .int .i64 k, .string (bs u)] w fun e w' => e = .returned (.tuple #[.string (bs (sPut l k u).1), .int .i64 (sPut l k u).2]) ∧ Below w.heap.size w w' := by
  have HR := Lib.hid (fun W (h : Tabs W) => Where_calls l (by omega) k W h)
  have HT := Lib.hid ht
  obtain ⟨⟨f, t, er⟩, HS⟩ : ∃ r, Hid (sWhere l k = r) := ⟨_, rfl⟩
  have Hs : Hid (sPut l k u = if er ≠ 0 then ([], er) else sChanged (l.take f.toNat ++ u ++ l.drop t.toNat)) := by show _ = _; unfold sPut; rw [HS.out]
  rw [HS.out] at HR
  rw [Hs.out]
  clear ht Hs
  by_cases he : er = 0
  · subst he
    rw [if_neg (by decide)]
    obtain ⟨a, b, rfl, rfl, ha, hb⟩ := sWhere_ok HS.out
    rw [Int.toNat_natCast, Int.toNat_natCast]
    rw [List.append_assoc]
    have HC := Lib.hid (fun W (h : Tabs W) => changed_calls (l.take a ++ (u ++ l.drop b)) (by simp; omega) W h)
    have hsz : (bs l).size = l.length := bs_size l
    have ha1 : (a : Int) ≤ (l.length : Int) := by omega
    have ha0 : (0 : Int) ≤ (a : Int) := by omega
    have hb1 : (b : Int) ≤ (l.length : Int) := by omega
    have hb0 : (0 : Int) ≤ (b : Int) := by omega
    have e1 := bs_extract_to l a
    have e2 := bs_extract_from l b l.length (Nat.le_refl _)
    have e3 := bs_append (l.take a) u
    have e4 := bs_append (l.take a ++ u) (l.drop b)
    have hc1 : ¬ 9223372036854775807 < (bs (l.take a)).size + (bs u).size := by rw [bs_size, bs_size, List.length_take]; omega
    have hc2 : ¬ 9223372036854775807 < (bs (l.take a ++ u)).size + (bs (l.drop b)).size := by rw [bs_size, bs_size, List.length_append, List.length_take, List.length_drop]; omega
    obtain ⟨sc, HSC⟩ : ∃ r, Hid (sChanged (l.take a ++ (u ++ l.drop b)) = r) := ⟨_, rfl⟩
    rw [HSC.out] at HC ⊢
    clear HS HSC
    go_enter Tryz.func35, Tryz.ntmps35
    go_wp2_with fail
    refine (HR.out _ HT.out).mono ?_
    rintro e w1 ⟨rfl, hb⟩
    dsimp only
    go_wp2_with fail
    have hbd : Below w.heap.size w w1.drew := hb.drew
    have htd := HT.out.below hbd
    have hzd := hbd.size
    go_region_law (go_simp; go_at_call 80; (with_reducible refine (HC.out _ htd).mono ?_); rintro e w2 ⟨rfl, hb2⟩)
    all_goals
      have hb3 := bt hb2 hbd hzd
      clear HC htd hbd hb2
      go_wp2_with fail
      go_ret2
      exact ⟨rfl, hb3⟩
  · rw [if_pos he]
    have he0 : (er != 0) = true := by simpa using he
    clear he
    go_enter Tryz.func35, Tryz.ntmps35
    go_wp2_with fail
    refine (HR.out _ HT.out).mono ?_
    rintro e w1 ⟨rfl, hb⟩
    go_wp2_with fail
    go_ret2
    exact ⟨rfl, hb⟩
end Go.Proofs.YtonnegkpjmhomaaGreatDoor
end
