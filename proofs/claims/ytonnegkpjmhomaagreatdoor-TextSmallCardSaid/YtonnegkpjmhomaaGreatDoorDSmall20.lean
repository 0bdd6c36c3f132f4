import Derived.Test.YtonnegkpjmhomaaGreatDoorDSmall11
import Derived.Test.YtonnegkpjmhomaaGreatDoorDSmall17
import Derived.Test.YtonnegkpjmhomaaGreatDoorDSmall18
import Derived.Test.YtonnegkpjmhomaaGreatDoorDSmall19
set_option linter.all false
section
set_option linter.all false
namespace Go.Proofs.YtonnegkpjmhomaaGreatDoor
open Go.RowKit
section
variable {l : List UInt8}
theorem readAt_ge (i : Nat) : i ≤ (readAt 3 [58, 59] l i).at_ := by
  unfold readAt
  split <;> exact Nat.le_add_right _ _
theorem tk_mono (k : Nat) (ws : List (List UInt8)) (f : Fm) : f.r.at_ ≤ (tk l k ws f).r.at_ := by
  show f.r.at_ ≤ (takesR 3 [58, 59] l k ws f).r.at_
  unfold takesR
  repeat' split
  · exact Nat.le_refl _
  · exact Nat.le_refl _
  · exact Nat.le_refl _
  · exact Nat.le_trans (Nat.le_add_right _ _) (readAt_ge _)
theorem tk_more {k : Nat} (hk : 2 < k) {f : Fm} (h : (tk l k [] f).wrong < 0) : f.r.at_ < (tk l k [] f).r.at_ := by
  have h : (takesR 3 [58, 59] l k [] f).wrong < 0 := h
  show f.r.at_ < (takesR 3 [58, 59] l k [] f).r.at_
  unfold takesR at h ⊢
  by_cases h1 : 0 ≤ f.wrong
  · rw [if_pos h1] at h; omega
  · rw [if_neg h1] at h ⊢
    by_cases h2 : takesB k [] f.r = false
    · rw [if_pos h2] at h
      have h : (f.r.at_ : Int) < 0 := h
      omega
    · rw [if_neg h2] at h ⊢
      by_cases h3 : 0 ≤ f.r.wrong
      · rw [if_pos h3] at h
        have h : f.r.wrong < 0 := h
        omega
      · rw [if_neg h3]
        refine Nat.lt_of_lt_of_le ?_ (readAt_ge _)
        have h4 : takesB k [] f.r = true := by simpa using h2
        unfold takesB at h4
        simp only [Bool.and_eq_true] at h4
        have h5 := h4.1.2
        have h6 : decide (k ≤ 2) = false := decide_eq_false (by omega)
        rw [h6, Bool.false_or] at h5
        have : f.r.text ≠ [] := by intro e; rw [e] at h5; simp at h5
        have := List.length_pos_iff.2 this
        omega
theorem wiresR_mono : ∀ (k : Nat) (f : Fm), f.r.at_ ≤ (wiresR l k f).2.r.at_
  | 0, _ => Nat.le_refl _
  | k + 1, f => Nat.le_trans (tk_mono 2 [] f) (wiresR_mono k _)
theorem ifR_mono (f : Fm) : f.r.at_ ≤ (ifR l f).2.r.at_ := by
  unfold ifR
  split
  · exact Nat.le_trans (tk_mono _ _ _) (Nat.le_trans (tk_mono _ _ _) (tk_mono _ _ _))
  · exact Nat.le_refl _
theorem gateR_more {f : Fm} (h : (gateR l f).2.2.wrong < 0) : f.r.at_ < (gateR l f).2.2.r.at_ := by
  refine Nat.lt_of_le_of_lt ?_ (tk_more (k := 59) (by decide) h)
  refine Nat.le_trans (ifR_mono (l := l) f) (Nat.le_trans (tk_mono (l := l) 1 (wordTab.map (·.1)) _) (Nat.le_trans (wiresR_mono (l := l) (arity (kindW (ifR l f).2.r.text)).toNat _) ?_))
  show _ ≤ (if kindW (ifR l f).2.r.text = 13 then (numR _, tk l 2 [] _) else ((0 : Int), _)).2.r.at_
  split
  · exact tk_mono _ _ _
  · exact Nat.le_refl _
theorem okT_wires : ∀ (k : Nat) {f : Fm}, OkT l f.r → OkT l (wiresR l k f).2.r
  | 0, _, h => h
  | k + 1, _, h => okT_wires k (okT_tk h _ _)
theorem okT_if {f : Fm} (h : OkT l f.r) : OkT l (ifR l f).2.r := by
  unfold ifR
  split
  · exact okT_tk (okT_tk (okT_tk h _ _) _ _) _ _
  · exact h
theorem okT_gate {f : Fm} (h : OkT l f.r) : OkT l (gateR l f).2.2.r := by
  refine okT_tk ?_ _ _
  have h1 : OkT l (wiresR l (arity (kindW (ifR l f).2.r.text)).toNat (tk l 1 (wordTab.map (·.1)) (ifR l f).2)).2.r := okT_wires _ (okT_tk (okT_if h) _ _)
  show OkT l (if kindW (ifR l f).2.r.text = 13 then (numR _, tk l 2 [] _) else ((0 : Int), _)).2.r
  split
  · exact okT_tk h1 _ _
  · exact h1
theorem okT_head {f : Fm} (h : OkT l f.r) : OkT l (headR l f).2.2.r := by
  refine okT_tk ?_ _ _
  have h1 : OkT l (tk l 2 [] (tk l 1 [[119, 105, 114, 101, 115]] f)).r := okT_tk (okT_tk h _ _) _ _
  show OkT l (if isR [98, 105, 116, 115] _ then (numR _, tk l 2 [] (tk l 1 [] _)) else ((0 : Int), _)).2.r
  split
  · exact okT_tk (okT_tk h1 _ _) _ _
  · exact h1
theorem gatesR_end {n : Nat} {f : Fm} (h : 0 ≤ f.wrong ∨ f.r.none = true) : gatesR l n f = ([], [], f) := by
  cases n with
  | zero => rfl
  | succ n => rw [gatesR, if_pos (by rcases h with h | h; exact .inl h; exact .inr h)]
theorem gatesR_step {n : Nat} {f : Fm} (h1 : f.wrong < 0) (h2 : f.r.none = false) : gatesR l (n + 1) f =
    ((gateR l f).1 :: (gatesR l n (gateR l f).2.2).1, (f.r.at_, (gateR l f).2.1.r.at_ + (gateR l f).2.1.r.text.length) :: (gatesR l n (gateR l f).2.2).2.1, (gatesR l n (gateR l f).2.2).2.2) := by
  rw [gatesR, if_neg (by rintro (h | h); omega; rw [h2] at h; cases h)]
theorem wiresR_len : ∀ (k : Nat) (f : Fm), (wiresR l k f).1.length = k
  | 0, _ => rfl
  | k + 1, f => by rw [wiresR, List.length_cons, wiresR_len k]
theorem gatesR_wires : ∀ {n : Nat} {f : Fm} {g : Gt}, g ∈ (gatesR l n f).1 → g.wires.length ≤ 3
  | 0, _, _, h => by cases h
  | n + 1, f, g, h => by
    rw [gatesR] at h
    split at h
    · cases h
    · rcases List.mem_cons.1 h with rfl | h
      · show (wiresR l _ _).1.length ≤ 3
        rw [wiresR_len]
        have := (arity_range (kindW (ifR l f).2.r.text)).2
        omega
      · exact gatesR_wires h
end
theorem infoPair : (Tryz.prog.info? 150).map (fun i => (i.zero, i.size, i.bytes)) = some (some (.agg #[.int .i64 0, .int .i64 0]), 2, 16) := by kernel_rfl
theorem own_blk_of {w : World} {base size n : Nat} {e : TypeId} {v : Value} {xs : List Value} (h : w.ownsRow base e size v n xs) {k : Nat} (hk : v.ownBlock = some k) : base ≤ k ∧ ∃ cur, Blk w k e cur := by
  rcases h.2 with ⟨rfl, _⟩ | ⟨g, cap, cur, rfl, hb, hc, _⟩
  · simp [Value.ownBlock] at hk
  · have e2 : g = k := by simpa [Value.ownBlock] using hk
    subst e2
    exact ⟨hb, cur, hc⟩
structure PSt (w wx : World) (F B : Nat) (l : List UInt8) (f : Fm) (a b gv : Value) (gw : List (Gt × Value)) (sv : Value) (sp : List (Nat × Nat)) : Prop where
  fm : FmAt wx F l f
  res : Blk wx w.heap.size 25 #[.int .i64 0, .int .i64 0, .slice none 0 0]
  c : Blk wx B 25 #[a, b, gv]
  sp : wx.ownsRow w.heap.size 150 2 sv sp.length (spansC sp)
  gs : GsAt wx w.heap.size gv gw
  kept : Below w.heap.size w wx
  hF : w.heap.size ≤ F
  hB : w.heap.size ≤ B
  hne : w.heap.size ≠ B
theorem PSt.below {w wx w' : World} {F B : Nat} {l : List UInt8} {f : Fm} {a b gv sv : Value} {gw : List (Gt × Value)} {sp : List (Nat × Nat)} (h : PSt w wx F B l f a b gv gw sv sp) (hb : Below wx.heap.size wx w') : PSt w w' F B l f a b gv gw sv sp := by
  obtain ⟨h1, h2, h3, h4, h5, h6, h8, h9, h10⟩ := h
  exact ⟨Blk.below h1 hb h1.lt, h2.below hb h2.lt, h3.below hb h3.lt, own_below h4 hb (Nat.le_refl _), h5.below hb, h6.trans (hb.mono h6.size), h8, h9, h10⟩
theorem PSt.took {w wx w' : World} {F B : Nat} {l : List UInt8} {f f2 : Fm} {a b gv sv : Value} {gw : List (Gt × Value)} {sp : List (Nat × Nat)} (h : PSt w wx F B l f a b gv gw sv sp) (hf : FmAt w' F l f2) (hg : wx.grownBy w' (some F)) : PSt w w' F B l f2 a b gv gw sv sp := by
  obtain ⟨h1, h2, h3, h4, h5, h6, h8, h9, h10⟩ := h
  have e0 := h2.ne_ h1 (by decide)
  have e1 := h3.ne_ h1 (by decide)
  exact ⟨hf, h2.grown hg (fun e => e0 (by injection e)), h3.grown hg (fun e => e1 (by injection e)), h4.kept hg (.inr (own_blk_ne h4 h1 (by decide))), h5.far h1 (by decide) (by decide) hg, below_grown' h6 hg h8, h8, h9, h10⟩
theorem PSt.put {w wx : World} {F B : Nat} {l : List UInt8} {f : Fm} {a b gv a' b' sv : Value} {gw : List (Gt × Value)} {sp : List (Nat × Nat)} (h : PSt w wx F B l f a b gv gw sv sp) (i : Nat) (v : Value) (he : #[a, b, gv].setIfInBounds i v = #[a', b', gv]) :
    PSt w (wx.setCell ⟨B, i, none⟩ v) F B l f a' b' gv gw sv sp := by
  obtain ⟨h1, h2, h3, h4, h5, h6, h8, h9, h10⟩ := h
  have hg : wx.grownBy (wx.setCell ⟨B, i, none⟩ v) (some B) := grown_set ⟨rfl, rfl, rfl, Nat.le_refl _, fun _ _ _ => rfl⟩ i v
  have e1 := h1.ne_ h3 (by decide)
  exact ⟨Blk.grown h1 hg (fun e => e1 (by injection e with e)), h2.far h10 _, by rw [← he]; exact h3.set_ i v, h4.kept hg (.inr (own_blk_ne h4 h3 (by decide))), h5.far h3 (by decide) (by decide) hg, below_grown' h6 hg h9, h8, h9, h10⟩
theorem PSt.app {w wx w7 : World} {F B : Nat} {l : List UInt8} {f : Fm} {a b gv v' sv : Value} {gw : List (Gt × Value)} {sp : List (Nat × Nat)} {row : Option Nat} {p : Gt × Value}
    (h : PSt w wx F B l f a b gv gw sv sp) (hp : wx.ownsRow w.heap.size 3 1 p.2 p.1.wires.length (p.1.wires.map (Value.int .i64)))
    (hown : w7.ownsRow w.heap.size 61 4 v' (gw.length + 1) (gatesC gw ++ gateC p)) (hg : wx.grownBy w7 row) (hrr : ∀ g, row = some g → w.heap.size ≤ g ∧ ∃ cur, Blk wx g 61 cur) :
    PSt w (w7.setCell ⟨B, 2, none⟩ v') F B l f a b v' (gw ++ [p]) sv sp := by
  obtain ⟨h1, h2, h3, h4, h5, h6, h8, h9, h10⟩ := h
  have ne_ : ∀ {g : Nat} {t : TypeId} {cs : Array Value}, Blk wx g t cs → t ≠ 61 → row ≠ some g := fun hb ht e => by
    obtain ⟨_, cur, hc⟩ := hrr _ e
    exact hc.ne_ hb (Ne.symm ht) rfl
  have own_ : ∀ {base : Nat} {t : TypeId} {size n : Nat} {v : Value} {xs : List Value}, wx.ownsRow base t size v n xs → t ≠ 61 → w7.ownsRow base t size v n xs := fun ho ht => ho.kept hg (by
    cases hrw : row with
    | none => exact Classical.em _
    | some g => obtain ⟨_, cur, hb⟩ := hrr g hrw; exact .inr (own_blk_ne ho hb ht))
  have hs : w7.grownBy (w7.setCell ⟨B, 2, none⟩ v') (some B) := grown_set ⟨rfl, rfl, rfl, Nat.le_refl _, fun _ _ _ => rfl⟩ 2 v'
  have k1 : FmAt w7 F l f := Blk.grown h1 hg (fun e => ne_ h1 (by decide) e.symm)
  have k2 := h2.grown hg (fun e => ne_ h2 (by decide) e.symm)
  have k3 := h3.grown hg (fun e => ne_ h3 (by decide) e.symm)
  have k4 := own_ h4 (by decide)
  have e1 := k1.ne_ k3 (by decide)
  refine ⟨Blk.grown k1 hs (fun e => e1 (by injection e with e)), k2.far h10 _, k3.set_ 2 v', k4.kept hs (.inr (own_blk_ne k4 k3 (by decide))), ⟨?_, ?_⟩, ?_, h8, h9, h10⟩
  · rw [gatesC_snoc, List.length_append]
    exact hown.kept hs (.inr (own_blk_ne hown k3 (by decide)))
  · intro q hq
    have hq2 : wx.ownsRow w.heap.size 3 1 q.2 q.1.wires.length (q.1.wires.map (Value.int .i64)) := by
      rcases List.mem_append.1 hq with hq | hq
      · exact h5.each q hq
      · rw [List.mem_singleton.1 hq]; exact hp
    have hq3 := own_ hq2 (by decide)
    exact hq3.kept hs (.inr (own_blk_ne hq3 k3 (by decide)))
  · have b7 : Below w.heap.size w w7 := ⟨hg.os.trans h6.os, hg.tape.trans h6.tape, hg.output.trans h6.output, Nat.le_trans h6.size hg.size, fun j hj => (hg.block j (Nat.lt_of_lt_of_le hj h6.size) (fun e => by have := (hrr j e.symm).1; omega)).trans (h6.block j hj)⟩
    exact b7.setCell h9 _
theorem PSt.span {w wx w7 : World} {F B : Nat} {l : List UInt8} {f : Fm} {a b gv v' sv : Value} {gw : List (Gt × Value)} {sp : List (Nat × Nat)} {row : Option Nat} {p : Nat × Nat}
    (h : PSt w wx F B l f a b gv gw sv sp)
    (hown : w7.ownsRow w.heap.size 150 2 v' (sp.length + 1) (spansC sp ++ [.int .i64 p.1, .int .i64 p.2])) (hg : wx.grownBy w7 row) (hrr : ∀ g, row = some g → w.heap.size ≤ g ∧ ∃ cur, Blk wx g 150 cur) :
    PSt w w7 F B l f a b gv gw v' (sp ++ [p]) := by
  obtain ⟨h1, h2, h3, h4, h5, h6, h8, h9, h10⟩ := h
  have ne_ : ∀ {g : Nat} {t : TypeId} {cs : Array Value}, Blk wx g t cs → t ≠ 150 → row ≠ some g := fun hb ht e => by
    obtain ⟨_, cur, hc⟩ := hrr _ e
    exact hc.ne_ hb (Ne.symm ht) rfl
  have own_ : ∀ {base : Nat} {t : TypeId} {size n : Nat} {v : Value} {xs : List Value}, wx.ownsRow base t size v n xs → t ≠ 150 → w7.ownsRow base t size v n xs := fun ho ht => ho.kept hg (by
    cases hrw : row with
    | none => exact Classical.em _
    | some g => obtain ⟨_, cur, hb⟩ := hrr g hrw; exact .inr (own_blk_ne ho hb ht))
  refine ⟨Blk.grown h1 hg (fun e => ne_ h1 (by decide) e.symm), h2.grown hg (fun e => ne_ h2 (by decide) e.symm), h3.grown hg (fun e => ne_ h3 (by decide) e.symm), ?_, ⟨own_ h5.row (by decide), fun q hq => own_ (h5.each q hq) (by decide)⟩, ?_, h8, h9, h10⟩
  · rw [spansC_snoc, List.length_append]
    exact hown
  · exact ⟨hg.os.trans h6.os, hg.tape.trans h6.tape, hg.output.trans h6.output, Nat.le_trans h6.size hg.size, fun j hj => (hg.block j (Nat.lt_of_lt_of_le hj h6.size) (fun e => by have := (hrr j e.symm).1; omega)).trans (h6.block j hj)⟩
def RpPost (r : Ct × List (Nat × Nat) × Int × Int) (w : World) (e : Ending) (w' : World) : Prop :=
  ∃ gv sv gw, e = .returned (.tuple #[.agg #[.int .i64 r.1.wires, .int .i64 r.1.bits, gv], sv, .int .i64 r.2.2.1, .int .i64 r.2.2.2]) ∧ gw.map (·.1) = r.1.gates ∧
    GsAt w' w.heap.size gv gw ∧ w'.ownsRow w.heap.size 150 2 sv r.2.1.length (spansC r.2.1) ∧ Below w.heap.size w w'
theorem rp_none {w w' : World} (at_ er : Int) (hb : Below w.heap.size w w') : RpPost (Ct.zero, [], at_, er) w (.returned (.tuple #[.agg #[.int .i64 0, .int .i64 0, .slice none 0 0], .slice none 0 0, .int .i64 at_, .int .i64 er])) w' :=
  ⟨.slice none 0 0, .slice none 0 0, [], rfl, rfl, ⟨World.ownsRow_nil _ _ _ _, fun p hp => by cases hp⟩, World.ownsRow_nil _ _ _ _, hb⟩
theorem Blk.at9 {w : World} {g : Nat} {t : TypeId} {a b c d e f h i j k : Value} (H : Blk w g t #[a, b, c, d, e, f, h, i, j, k]) : w.cell? ⟨g, 9, none⟩ = some k := H.cell 9
set_option maxRecDepth 100000 in
set_option maxHeartbeats 16000000 in
theorem refParse_walk (l : List UInt8) (hl : l.length ≤ 65536) (f0 fH fE : Fm) (m b : Int) (G : List Gt) (sp : List (Nat × Nat))
    (H0 : Hid (Fm.mk (readAt 3 [58, 59] l 0) (-1) = f0)) (H1 : Hid (headR l f0 = (m, b, fH))) (H2 : Hid (gatesR l (l.length + 1) fH = (G, sp, fE))) (w : World) :
    Calls Tryz.prog 58 #[.string (bs l)] w (RpPost (rdEnd l.length m b G sp ⟨0, fE.wrong⟩) w) := by
  have hsz : (bs l).size = l.length := bs_size l
  have hl6 : l.length ≤ 1000000 := by omega
  have ok0 : OkT l f0.r := by rw [← H0.out]; exact okT_at l 0 (Nat.zero_le _)
  have okH : OkT l fH.r := by have := okT_head ok0; rw [H1.out] at this; exact this
  have HR := Lib.hid (fun W => refRead_calls l hl6 W)
  have e0 : readAt 3 [58, 59] l 0 = f0.r := by rw [← H0.out]
  have w0 : f0.wrong = -1 := by rw [← H0.out]
  rw [e0] at HR
  unfold rdC at HR
  have HH := Lib.hid (fun F W h => header_calls F l hl6 f0 ok0 W h)
  rw [H1.out] at HH
  have OkH := Lib.hid okH
  have W0 := Lib.hid w0
  clear H0 H1 e0 w0 ok0 okH
  go_enter Tryz.func58, Tryz.ntmps58
  go_wp2_with fail
  refine (HR.out _).mono ?_
  rintro e w1 ⟨rfl, hb1⟩
  have h0 : PSt w ((w1.alloc (.cells (fmC l f0) 156)).alloc (.cells #[.int .i64 0, .int .i64 0, .slice none 0 0] 25)) w1.heap.size (w1.heap.size + 1) l f0 (.int .i64 0) (.int .i64 0) (.slice none 0 0) [] (.slice none 0 0) [] := by
    have hbw := below1 w (.cells #[.int .i64 0, .int .i64 0, .slice none 0 0] 25)
    have hbx := below2 w1 (.cells (fmC l f0) 156) (.cells #[.int .i64 0, .int .i64 0, .slice none 0 0] 25)
    have hba : Below w.heap.size w w1 := bt hb1 hbw (by simp)
    have hz1 := hb1.size
    simp at hz1
    have hres : Blk w1 w.heap.size 25 #[.int .i64 0, .int .i64 0, .slice none 0 0] := (Blk.new w _ _).below hb1 (by simp)
    exact ⟨(Blk.new w1 _ _).alloc _, hres.below hbx hres.lt, Blk.at_ _ _ _ (by simp), World.ownsRow_nil _ _ _ _, ⟨World.ownsRow_nil _ _ _ _, fun p hp => by cases hp⟩, bt hbx hba hba.size, by omega, by omega, by omega⟩
  unfold fmC at h0
  rw [W0.out] at h0
  clear hb1 HR
  go_upto_region 6 with fail
  generalize (w1.alloc (.cells #[.string (bs l), .int .i64 3, .string (bs [58, 59]), .int .i64 f0.r.at_, .int .i64 f0.r.at_, .int .i64 f0.r.kind, .string (bs f0.r.text), .int .i64 f0.r.wrong, .bool f0.r.none, .int .i64 (-1)] 156)).alloc (.cells #[.int .i64 0, .int .i64 0, .slice none 0 0] 25) = wa at *
  generalize w1.heap.size + 1 = B at *
  generalize w1.heap.size = F at *
  go_wp2_with fail
  refine (HH.out _ _ h0.fm).mono ?_
  rintro e w2 ⟨rfl, h2, g2⟩
  have h2 := h0.took h2 g2
  have y0 := h2.c.cell 0
  have y1 := h2.c.cell 1
  have yf := h2.c.frozen
  simp at y0 y1
  have H3 := Lib.hid ((h2.put 0 (.int .i64 m) (a' := .int .i64 m) (b' := .int .i64 0) rfl).put 1 (.int .i64 b) (a' := .int .i64 m) (b' := .int .i64 b) rfl)
  clear h0 h2 g2 HH W0
  go_upto_block 0 with fail
  clear y0 y1 yf
  go_cut [8, 9, 10, 11] from 28 to 58 (fun s8 _ _ _ wx => ∃ gv gw, PSt w wx F B l fE (.int .i64 m) (.int .i64 b) gv gw s8 sp ∧ gw.map (·.1) = G)
  case first =>
    go_wp2_with fail
    go_loopg [8, 9, 10, 11] (l.length + 1) (fun gk s8 _ _ _ wr => ∃ (pre : List Gt) (presp : List (Nat × Nat)) (fj : Fm) (gv : Value) (gw : List (Gt × Value)), (G, sp, fE) = (pre ++ (gatesR l gk fj).1, presp ++ (gatesR l gk fj).2.1, (gatesR l gk fj).2.2) ∧
      PSt w wr F B l fj (.int .i64 m) (.int .i64 b) gv gw s8 presp ∧ gw.map (·.1) = pre ∧ OkT l fj.r ∧ (fj.wrong < 0 → l.length + 1 ≤ fj.r.at_ + gk) ∧ presp.length + gk ≤ l.length + 1 ∧ pre.length + gk ≤ l.length + 1)
    case atStart => exact ⟨[], [], fH, _, [], by rw [H2.out]; rfl, H3.out, rfl, OkH.out, by omega, by simp, by simp⟩
    case round =>
      clear H2 H3 OkH
      obtain ⟨pre, presp, fj, gv, gw, hG, h, hgw, hok, hfu, hn1, hn2⟩ := hrel
      have HG := Lib.hid hG
      have Hgw := Lib.hid hgw
      clear hG hgw
      obtain ⟨x0, x1, x2, x3, x4, x5, x6, x7, x8, x9, xf⟩ := Blk.cells10 h.fm
      by_cases hw : fj.wrong < 0
      · have d1 : decide (fj.wrong < 0) = true := decide_eq_true hw
        cases hn : fj.r.none
        · rw [hn] at x8
          have hfu := hfu hw
          have hal : fj.r.at_ ≤ l.length := by have := hok.1; unfold OkR at this; omega
          obtain ⟨g, HG0⟩ : ∃ g, gk = g + 1 := ⟨gk - 1, by omega⟩
          subst HG0
          have HG2 : Hid ((G, sp, fE) = ((pre ++ [(gateR l fj).1]) ++ (gatesR l g (gateR l fj).2.2).1, (presp ++ [(fj.r.at_, (gateR l fj).2.1.r.at_ + (gateR l fj).2.1.r.text.length)]) ++ (gatesR l g (gateR l fj).2.2).2.1, (gatesR l g (gateR l fj).2.2).2.2)) := by
            show _ = _
            rw [HG.out, gatesR_step hw hn]; simp
          have Hok2 := Lib.hid (okT_gate hok)
          have Hfk : Hid ((gateR l fj).2.2.wrong < 0 → l.length + 1 ≤ (gateR l fj).2.2.r.at_ + g) := fun h => by have := gateR_more h; omega
          have HGt := Lib.hid (fun W h => refGate_calls F l hl6 fj hok W h)
          obtain ⟨⟨g1, d1', f1⟩, Hg1⟩ : ∃ x, Hid (gateR l fj = x) := ⟨_, rfl⟩
          rw [Hg1.out] at HGt HG2 Hok2 Hfk
          dsimp only at HGt HG2 Hok2 Hfk
          generalize d1'.r.at_ + d1'.r.text.length = q at *
          clear HG Hg1 hok hfu hn
          obtain ⟨A2, c2, rfl⟩ := own_form h.sp
          obtain ⟨A, cc, rfl⟩ := own_form h.gs.row
          have hgl : gw.length = pre.length := by have := congrArg List.length Hgw.out; rw [List.length_map] at this; exact this
          have hml : gw.length + 1 ≤ maxLen := by unfold maxLen; omega
          have hml9 : gw.length ≤ 65536 := by omega
          have hml2 : presp.length + 1 ≤ maxLen := by unfold maxLen; omega
          have hml8 : presp.length ≤ 65536 := by omega
          obtain ⟨j0, hinf, hz0, hz1, hz2⟩ := info_parts infoGate
          obtain ⟨p0, hinf2, hz3, hz4, hz5⟩ := info_parts infoPair
          have Hgl := Lib.hid hgl
          have HkS := Lib.hid h.kept.size
          clear hgl
          go_wp2_with fail
          refine (HGt.out _ h.fm).mono ?_
          rintro e w6 ⟨wv, rfl, hw6, hf6, g6⟩
          obtain ⟨A6, c6, rfl⟩ := own_form hw6
          have hw6 := own_base hw6 HkS.out
          have h6 := h.took hf6 g6
          clear hf6 g6 h HGt x0 x1 x2 x3 x4 x5 x6 x7 x8 x9 xf
          have h7 := h6.below (below1 w6 (.cells #[.int .i64 g1.kind, .slice A6 g1.wires.length c6, .int .i64 g1.bit, .int .i64 g1.ifn] 61))
          have hw7 := own_below hw6 (below1 w6 (.cells #[.int .i64 g1.kind, .slice A6 g1.wires.length c6, .int .i64 g1.bit, .int .i64 g1.ifn] 61)) (Nat.le_refl _)
          have b7 := Blk.new w6 61 #[.int .i64 g1.kind, .slice A6 g1.wires.length c6, .int .i64 g1.bit, .int .i64 g1.ifn]
          clear h6 hw6
          go_upto_region 9 with fail
          generalize w6.alloc (.cells #[.int .i64 g1.kind, .slice A6 g1.wires.length c6, .int .i64 g1.bit, .int .i64 g1.ifn] 61) = w7 at *
          generalize w6.heap.size = D at *
          obtain ⟨z0, z1, z2, z3, zf⟩ := b7.cells4
          have y2 := h7.c.cell 2
          have yf := h7.c.frozen
          simp at y2
          have hks7 := h7.kept.size
          have h8 := h7.below (below1 w7 (.cells #[.int .i64 g1.kind, .slice A6 g1.wires.length c6, .int .i64 g1.bit, .int .i64 g1.ifn] 61))
          have hw8 := own_below hw7 (below1 w7 (.cells #[.int .i64 g1.kind, .slice A6 g1.wires.length c6, .int .i64 g1.bit, .int .i64 g1.ifn] 61)) (Nat.le_refl _)
          go_upto_region 10 with (at_builtin; refine wpList_append_own _ rfl _ _ 23 rfl w.heap.size 61 j0 _ 4 48 Tryz.underlying23 hinf hz0 hz1 hz2 rfl (by decide) _ _ _ rfl h8.gs.row ⟨w7.heap.size, 0, none⟩ 1 1 [.int .i64 g1.kind, .slice A6 g1.wires.length c6, .int .i64 g1.bit, .int .i64 g1.ifn] rfl rfl (row_new _ _ _) (by simp [Value.oneCell']) hml (by omega) (by simp; omega) ?_; intro v' w9 hown' hgrow _; obtain ⟨g', cap', rfl⟩ := ownsRow_succ hown'; have hrr2 := (fun g e => own_blk_of (k := g) h8.gs.row e); have h9c := h8.c.grown hgrow (fun e => by obtain ⟨_, cur, hb⟩ := hrr2 _ e.symm; exact hb.ne_ h8.c (by decide) rfl); clear y2 yf; have y2 := h9c.cell 2; have yf := h9c.frozen; simp at y2)
          have h10 := h8.app (p := (g1, .slice A6 g1.wires.length c6)) hw8 hown' hgrow hrr2
          clear h7 h8 h9c hown' hgrow hrr2 hw7 hw8 y2 yf z0 z1 z2 z3 zf b7 hks7
          generalize w9.setCell ⟨B, 2, none⟩ (.slice (some ⟨g', 0, none⟩) (gw.length + 1) cap') = w10 at *
          have hks := h10.kept.size
          have h11 := h10.below (below1 w10 (.cells #[.int .i64 fj.r.at_, .int .i64 q] 150))
          go_wp2_with (at_builtin; refine wpList_append_own _ rfl _ _ 96 rfl w.heap.size 150 p0 _ 2 16 Tryz.underlying96 hinf2 hz3 hz4 hz5 rfl (by decide) _ _ _ rfl h11.sp ⟨w10.heap.size, 0, none⟩ 1 1 [.int .i64 fj.r.at_, .int .i64 q] rfl rfl (row_new _ _ _) (by simp [Value.oneCell']) hml2 (by omega) (by simp; omega) ?_; intro v'' w12 hown2 hgrow2 _; obtain ⟨g'', cap'', rfl⟩ := ownsRow_succ hown2)
          have H12 := Lib.hid (h11.span (p := (fj.r.at_, q)) hown2 hgrow2 (fun g e => own_blk_of (k := g) h11.sp e))
          clear h10 h11 hown2 hgrow2
          go_roundg g
          case measure => omega
          case rel => exact ⟨pre ++ [g1], presp ++ [(fj.r.at_, q)], f1, _, gw ++ [(g1, .slice A6 g1.wires.length c6)], HG2.out, H12.out, by rw [List.map_append, Hgw.out]; rfl, Hok2.out, Hfk.out, by simp; omega, by simp; omega⟩
        · rw [hn] at x8
          have HE : Hid ((G, sp, fE) = (pre, presp, fj)) := by show _ = _; rw [HG.out, gatesR_end (.inr hn)]; simp
          clear HG hn
          go_wp2_with fail
          go_meet
          have HE2 := HE.out
          injection HE2 with e1 e2
          injection e2 with e2 e3
          subst e1 e2 e3
          exact ⟨_, gw, h, Hgw.out⟩
      · have d1 : decide (fj.wrong < 0) = false := decide_eq_false hw
        have HE : Hid ((G, sp, fE) = (pre, presp, fj)) := by show _ = _; rw [HG.out, gatesR_end (.inl (by omega))]; simp
        clear HG
        go_wp2_with fail
        go_meet
        have HE2 := HE.out
        injection HE2 with e1 e2
        injection e2 with e2 e3
        subst e1 e2 e3
        exact ⟨_, gw, h, Hgw.out⟩
  case rest =>
    have Hg5 : Hid ((gatesR l (l.length + 1) fH).1 = G) := by show _ = _; rw [H2.out]
    clear H2 H3 OkH
    obtain ⟨gv, gw, h, hG⟩ := hcut
    have HG := Lib.hid hG
    clear hG
    obtain ⟨A, cc, hgv⟩ := own_form h.gs.row
    subst hgv
    obtain ⟨A2, c2, rfl⟩ := own_form h.sp
    have hrb : Blk wc F 156 (fmC l fE) := h.fm
    unfold fmC at hrb
    have hRw : F ≠ w.heap.size := (h.res.ne_ h.fm (by decide)).symm
    obtain ⟨x0, x1, x2, x3, x4, x5, x6, x7, x8, x9, xf⟩ := Blk.cells10 h.fm
    have z0 := h.res.cell 0
    have z1 := h.res.cell 1
    have z2 := h.res.cell 2
    have zf := h.res.frozen
    simp at z0 z1 z2
    by_cases hw : 0 ≤ fE.wrong
    · have HR : Hid (rdEnd l.length m b G sp ⟨0, fE.wrong⟩ = (Ct.zero, [], fE.wrong, 4)) := by show _ = _; unfold rdEnd; rw [if_pos hw]
      go_wp2_with fail
      go_region_held3 (fun W => W.cell? ⟨F, 9, none⟩ = some (.int .i64 fE.wrong)) ((with_reducible refine Blk.at9 (t := 156) (a := .string (bs l)) (b := .int .i64 3) (c := .string (bs [58, 59])) (d := .int .i64 fE.r.at_) (e := .int .i64 fE.r.at_) (f := .int .i64 fE.r.kind) (h := .string (bs fE.r.text)) (i := .int .i64 fE.r.wrong) (j := .bool fE.r.none) ?_) <;> (repeat (first | (with_reducible exact hrb) | ((with_reducible refine Blk.far' ?_ _ ?_); (focus ((try dsimp only); exact hRw))) | (with_reducible refine Blk.drew ?_)))) (fail)
      go_wp2_with fail
      refine bodyPost_ret (v := .tuple #[.agg #[.int .i64 0, .int .i64 0, .slice none 0 0], .slice none 0 0, .int .i64 fE.wrong, .int .i64 4]) (by simp [results, Tryz.results58, go_sem, z0, z1, z2]) rfl ?_
      rw [HR.out]
      refine rp_none _ _ ?_
      have hk := h.kept
      first | exact below_put3 hk (Nat.le_refl _) _ _ _ | exact (below_put3 hk (Nat.le_refl _) _ _ _).drew
    · have hgs := h.gs.gates
      rw [HG.out] at hgs
      have HC := Lib.hid (refCheck_calls m b (.slice A gw.length cc) G _ wc (Nat.le_refl _) hgs (by rw [← Hg5.out]; exact fun g hg => Nat.le_trans (gatesR_wires hg) (by decide)))
      have HR : Hid (rdEnd l.length m b G sp ⟨0, fE.wrong⟩ = if chkC ⟨m, b, G⟩ ≠ 0 then (Ct.zero, [], (l.length : Int), chkC ⟨m, b, G⟩) else (⟨m, b, G⟩, sp, 0, 0)) := by show _ = _; unfold rdEnd; rw [if_neg hw]
      generalize chkC ⟨m, b, G⟩ = er at *
      have y0 := h.c.cell 0
      have y1 := h.c.cell 1
      have y2 := h.c.cell 2
      have yf := h.c.frozen
      simp at y0 y1 y2
      clear hrb hgs
      go_wp2_with fail
      refine HC.out.mono ?_
      rintro e w5 ⟨rfl, hb5⟩
      have h := h.below hb5
      clear HC y0 y1 y2 yf z0 z1 z2 zf x0 x1 x2 x3 x4 x5 x6 x7 x8 x9 xf hb5
      have z0 := h.res.cell 0
      have z1 := h.res.cell 1
      have z2 := h.res.cell 2
      have zf := h.res.frozen
      have y0 := h.c.cell 0
      have y1 := h.c.cell 1
      have y2 := h.c.cell 2
      simp at z0 z1 z2 y0 y1 y2
      have hk := h.kept
      by_cases he : er = 0
      · have HR2 : Hid (rdEnd l.length m b G sp ⟨0, fE.wrong⟩ = (⟨m, b, G⟩, sp, 0, 0)) := by show _ = _; rw [HR.out, if_neg (by rw [he]; decide)]
        subst he
        have hBw : B ≠ w.heap.size := h.hne.symm
        have hgs2 := h.gs
        have hsp2 := h.sp
        have hres := h.res
        go_wp2_with fail
        refine bodyPost_ret (v := .tuple #[.agg #[.int .i64 m, .int .i64 b, .slice A gw.length cc], .slice A2 sp.length c2, .int .i64 0, .int .i64 0]) (by simp [results, Tryz.results58, go_sem, z0, z1, z2]) rfl ?_
        rw [HR2.out]
        refine ⟨_, _, gw, rfl, HG.out, ?_, ?_, ?_⟩
        · exact GsAt.far hgs2 hres (by decide) (by decide) (grown_put3 _ _ _ _ _)
        · exact World.ownsRow.kept hsp2 (grown_put3 _ _ _ _ _) (.inr (own_blk_ne hsp2 hres (by decide)))
        · exact below_put3 hk (Nat.le_refl _) _ _ _
      · have HR2 : Hid (rdEnd l.length m b G sp ⟨0, fE.wrong⟩ = (Ct.zero, [], (l.length : Int), er)) := by show _ = _; rw [HR.out, if_pos he]
        have he0 : (er != 0) = true := by simpa using he
        clear he
        go_wp2_with fail
        refine bodyPost_ret (v := .tuple #[.agg #[.int .i64 0, .int .i64 0, .slice none 0 0], .slice none 0 0, .int .i64 l.length, .int .i64 er]) (by simp [results, Tryz.results58, go_sem, z0, z1, z2]) rfl ?_
        rw [HR2.out]
        refine rp_none _ _ ?_
        first | exact below_put3 hk (Nat.le_refl _) _ _ _ | exact (below_put3 hk (Nat.le_refl _) _ _ _).drew
theorem rRead_short {l : List UInt8} (h : ¬ 65536 < l.length) : rRead l = rdEnd l.length (headR l ⟨readAt 3 [58, 59] l 0, -1⟩).1 (headR l ⟨readAt 3 [58, 59] l 0, -1⟩).2.1
    (gatesR l (l.length + 1) (headR l ⟨readAt 3 [58, 59] l 0, -1⟩).2.2).1 (gatesR l (l.length + 1) (headR l ⟨readAt 3 [58, 59] l 0, -1⟩).2.2).2.1 ⟨0, (gatesR l (l.length + 1) (headR l ⟨readAt 3 [58, 59] l 0, -1⟩).2.2).2.2.wrong⟩ := by
  unfold rRead
  rw [if_neg h]
  rfl
set_option maxRecDepth 100000 in
set_option maxHeartbeats 1000000 in
theorem refParse_calls (l : List UInt8) (hl : l.length ≤ 1000000) (w : World) : Calls Tryz.prog 58 #[.string (bs l)] w (RpPost (sRead l) w) := by
  have hsz : (bs l).size = l.length := bs_size l
  rw [← rRead_eq]
  by_cases hlong : 65536 < l.length
  · have Hs : Hid (rRead l = (Ct.zero, [], 0, 11)) := by show _ = _; unfold rRead; rw [if_pos hlong]
    rw [Hs.out]
    go_enter Tryz.func58, Tryz.ntmps58
    go_wp2_with fail
    exact bodyPost_ret (v := .tuple #[.agg #[.int .i64 0, .int .i64 0, .slice none 0 0], .slice none 0 0, .int .i64 0, .int .i64 11]) (by simp [results, Tryz.results58, go_sem]) rfl (rp_none _ _ (below1 _ _))
  · rw [rRead_short hlong]
    exact refParse_walk l (by omega) _ _ _ _ _ _ _ rfl rfl rfl w
end Go.Proofs.YtonnegkpjmhomaaGreatDoor
end
section
set_option linter.all false
namespace Go.Proofs.YtonnegkpjmhomaaGreatDoor
open Go.RowKit
theorem prow_cells {w : World} {n0 : Nat} {sv : Value} {sp : List (Nat × Nat)} (h : w.ownsRow n0 150 2 sv sp.length (spansC sp)) {i : Nat} (hi : i < sp.length) :
    ∃ g c, sv = .slice (some ⟨g, 0, none⟩) sp.length c ∧ g < w.heap.size ∧ w.cell? ⟨g, i * 2, none⟩ = some (.int .i64 (sp.getD i (0, 0)).1) ∧ w.cell? ⟨g, i * 2 + 1, none⟩ = some (.int .i64 (sp.getD i (0, 0)).2) := by
  rcases h.2 with ⟨h1, h2⟩ | ⟨g, cap, cur, rfl, _, hg, hnc, hcm, hcs, htk⟩
  · exfalso
    omega
  · have hp := spansC_get (List.getElem?_eq_getElem hi)
    have e : sp.getD i (0, 0) = sp[i] := by rw [List.getD_eq_getElem?_getD, List.getElem?_eq_getElem hi]; rfl
    rw [e]
    have hh : w.ownsRow n0 150 2 (.slice (some ⟨g, 0, none⟩) sp.length cap) sp.length (spansC sp) := h
    exact ⟨g, cap, rfl, Blk.lt (t := 150) (cs := cur) hg, (hh.cellAt (i * 2) (by omega)).trans hp.1, (hh.cellAt (i * 2 + 1) (by omega)).trans hp.2⟩
theorem own_len {w : World} {base size n : Nat} {e : TypeId} {v : Value} {xs : List Value} (h : w.ownsRow base e size v n xs) : n ≤ maxLen := by
  rcases h.2 with ⟨h1, h2⟩ | ⟨g, cap, cur, rfl, _, hg, hnc, hcm, hcs, htk⟩
  · subst h2; exact Nat.zero_le _
  · exact Nat.le_trans hnc hcm
set_option maxRecDepth 100000 in
set_option maxHeartbeats 2000000 in
theorem refChecked_calls (l : List UInt8) (hl : l.length ≤ 1000000) (w : World) :
    Calls Tryz.prog 100 #[.string (bs l)] w fun e w' => e = .returned (.tuple #[.string (bs (sChanged l).1), .int .i64 (sChanged l).2]) ∧ Below w.heap.size w w' := by
  have HR := Lib.hid (fun W => refParse_calls l hl W)
  obtain ⟨⟨⟨wi, bi, G⟩, sp, at_, er⟩, HS⟩ : ∃ r, Hid (sRead l = r) := ⟨_, rfl⟩
  have Hs : Hid (sChanged l = if er ≠ 0 then ([], er) else (l, 0)) := by show _ = _; unfold sChanged; rw [HS.out]
  rw [HS.out] at HR
  rw [Hs.out]
  clear HS Hs
  by_cases he : er = 0
  · subst he
    rw [if_neg (by decide)]
    go_enter Tryz.func100, Tryz.ntmps100
    go_wp2_with fail
    refine (HR.out _).mono ?_
    rintro e w1 ⟨gv, sv, gw, rfl, hg, hG, hsp, hb⟩
    obtain ⟨A, c, rfl⟩ := own_form hG.row
    obtain ⟨A2, c2, rfl⟩ := own_form hsp
    go_wp2_with fail
    go_ret2
    exact ⟨rfl, hb.alloc hb.size _⟩
  · rw [if_pos he]
    have he0 : (er != 0) = true := by simpa using he
    clear he
    go_enter Tryz.func100, Tryz.ntmps100
    go_wp2_with fail
    refine (HR.out _).mono ?_
    rintro e w1 ⟨gv, sv, gw, rfl, hg, hG, hsp, hb⟩
    obtain ⟨A, c, rfl⟩ := own_form hG.row
    obtain ⟨A2, c2, rfl⟩ := own_form hsp
    go_wp2_with fail
    go_ret2
    exact ⟨rfl, hb.alloc hb.size _⟩
set_option maxRecDepth 100000 in
set_option maxHeartbeats 2000000 in
theorem refWhere_calls (l : List UInt8) (hl : l.length ≤ 1000000) (k : Int) (w : World) :
    Calls Tryz.prog 54 #[.string (bs l), .int .i64 k] w fun e w' => e = .returned (.tuple #[.int .i64 (sWhere l k).1, .int .i64 (sWhere l k).2.1, .int .i64 (sWhere l k).2.2]) ∧ Below w.heap.size w w' := by
  have HR := Lib.hid (fun W => refParse_calls l hl W)
  obtain ⟨⟨⟨wi, bi, G⟩, sp, at_, er⟩, HS⟩ : ∃ r, Hid (sRead l = r) := ⟨_, rfl⟩
  have Hs : Hid (sWhere l k = if er ≠ 0 then (0, 0, er) else if k < 0 ∨ (sp.length : Int) ≤ k then (0, 0, 1) else (((sp.getD k.toNat (0, 0)).1 : Int), ((sp.getD k.toNat (0, 0)).2 : Int), 0)) := by show _ = _; unfold sWhere; rw [HS.out]
  rw [HS.out] at HR
  rw [Hs.out]
  have HO := Lib.hid (fun W => refOff5_calls k 0 ((sp.length : Int) - 1) W)
  clear HS Hs
  by_cases he : er = 0
  · subst he
    rw [if_neg (by decide)]
    have HO2 : Hid (sp.length ≤ maxLen → IntKind.i64.wrap ((sp.length : Int) - 1) = (sp.length : Int) - 1) := fun h => IntWalk.i64_in _ (by unfold maxLen at h; omega)
    by_cases hk : k < 0 ∨ (sp.length : Int) ≤ k
    · rw [if_pos hk]
      have e1 : (decide (k < 0) || decide ((sp.length : Int) - 1 < k)) = true := by simp; omega
      rw [e1] at HO
      clear hk e1
      go_enter Tryz.func54, Tryz.ntmps54
      go_wp2_with fail
      refine (HR.out _).mono ?_
      rintro e w1 ⟨gv, sv, gw, rfl, hg, hG, hsp, hb⟩
      obtain ⟨A, c, rfl⟩ := own_form hG.row
      have hml := own_len hsp
      obtain ⟨A2, c2, rfl⟩ := own_form hsp
      have hw1 := HO2.out hml
      dsimp only
      go_wp2_with fail
      refine (HO.out _).mono ?_
      rintro e w2 ⟨rfl, rfl⟩
      go_wp2_with fail
      go_ret3
      exact ⟨rfl, hb.alloc hb.size _⟩
    · rw [if_neg hk]
      obtain ⟨i, rfl⟩ : ∃ i : Nat, k = i := ⟨k.toNat, by omega⟩
      have e1 : (decide ((i : Int) < 0) || decide ((sp.length : Int) - 1 < (i : Int))) = false := by simp; omega
      rw [e1] at HO
      have hi : i < sp.length := by omega
      rw [Int.toNat_natCast]
      obtain ⟨p, Hp⟩ : ∃ p, Hid (sp.getD i (0, 0) = p) := ⟨sp.getD i (0, 0), rfl⟩
      rw [Hp.out]
      have hk3 : (i : Int) < (sp.length : Int) := by omega
      have hk4 : (0 : Int) ≤ (i : Int) := by omega
      clear hk e1
      go_enter Tryz.func54, Tryz.ntmps54
      go_wp2_with fail
      refine (HR.out _).mono ?_
      rintro e w1 ⟨gv, sv, gw, rfl, hg, hG, hsp, hb⟩
      obtain ⟨A, c, rfl⟩ := own_form hG.row
      have hml := own_len hsp
      obtain ⟨gs, c2, rfl, hgs, k0, k1⟩ := prow_cells (sp := sp) hsp hi
      have hw1 := HO2.out hml
      dsimp only
      rw [Hp.out] at k0 k1
      go_wp2_with fail
      refine (HO.out _).mono ?_
      rintro e w2 ⟨rfl, rfl⟩
      go_wp2_with fail
      go_quiet (fail)
      go_wp2_with fail
      go_ret3
      exact ⟨rfl, belowN (hb.alloc hb.size _) _⟩
  · rw [if_pos he]
    have he0 : (er != 0) = true := by simpa using he
    clear he
    go_enter Tryz.func54, Tryz.ntmps54
    go_wp2_with fail
    refine (HR.out _).mono ?_
    rintro e w1 ⟨gv, sv, gw, rfl, hg, hG, hsp, hb⟩
    obtain ⟨A, c, rfl⟩ := own_form hG.row
    obtain ⟨A2, c2, rfl⟩ := own_form hsp
    go_wp2_with fail
    go_ret3
    exact ⟨rfl, hb.alloc hb.size _⟩
set_option maxRecDepth 100000 in
set_option maxHeartbeats 4000000 in
theorem refPut_calls (l u : List UInt8) (hl : l.length ≤ 200000) (hu : u.length ≤ 200000) (k : Int) (w : World) :
    Calls Tryz.prog 55 #[.string (bs l), .int .i64 k, .string (bs u)] w fun e w' => e = .returned (.tuple #[.string (bs (sPut l k u).1), .int .i64 (sPut l k u).2]) ∧ Below w.heap.size w w' := by
  have HR := Lib.hid (fun W => refWhere_calls l (by omega) k W)
  obtain ⟨⟨f, t, er⟩, HS⟩ : ∃ r, Hid (sWhere l k = r) := ⟨_, rfl⟩
  have Hs : Hid (sPut l k u = if er ≠ 0 then ([], er) else sChanged (l.take f.toNat ++ u ++ l.drop t.toNat)) := by show _ = _; unfold sPut; rw [HS.out]
  rw [HS.out] at HR
  rw [Hs.out]
  clear Hs
  by_cases he : er = 0
  · subst he
    rw [if_neg (by decide)]
    obtain ⟨a, b, rfl, rfl, ha, hb⟩ := sWhere_ok HS.out
    rw [Int.toNat_natCast, Int.toNat_natCast]
    rw [List.append_assoc]
    have HC := Lib.hid (fun W => refChecked_calls (l.take a ++ (u ++ l.drop b)) (by simp; omega) W)
    have hsz : (bs l).size = l.length := bs_size l
    have ha1 : (a : Int) ≤ (l.length : Int) := by omega
    have ha0 : (0 : Int) ≤ (a : Int) := by omega
    have hb1 : (b : Int) ≤ (l.length : Int) := by omega
    have hb0 : (0 : Int) ≤ (b : Int) := by omega
    have e1 := bs_extract_to l a
    have e2 := bs_extract_from l b l.length (Nat.le_refl _)
    have e3 := bs_append (l.take a) u
    have e4 := bs_append (l.take a ++ u) (l.drop b)
    have hc1 : ¬ 9223372036854775807 < (bs (l.take a)).size + (bs u).size := by rw [bs_size, bs_size, List.length_take]; omega
    have hc2 : ¬ 9223372036854775807 < (bs (l.take a ++ u)).size + (bs (l.drop b)).size := by rw [bs_size, bs_size, List.length_append, List.length_take, List.length_drop]; omega
    obtain ⟨sc, HSC⟩ : ∃ r, Hid (sChanged (l.take a ++ (u ++ l.drop b)) = r) := ⟨_, rfl⟩
    rw [HSC.out] at HC ⊢
    clear HS HSC
    go_enter Tryz.func55, Tryz.ntmps55
    go_wp2_with fail
    refine (HR.out _).mono ?_
    rintro e w1 ⟨rfl, hb⟩
    dsimp only
    go_wp2_with fail
    have hbd : Below w.heap.size w w1.drew := hb.drew
    have hzd := hbd.size
    go_region_law (go_simp; go_at_call 100; (with_reducible refine (HC.out _).mono ?_); rintro e w2 ⟨rfl, hb2⟩)
    all_goals
      have hb3 := bt hb2 hbd hzd
      clear HC hbd hb2
      go_wp2_with fail
      go_ret2
      exact ⟨rfl, hb3⟩
  · rw [if_pos he]
    have he0 : (er != 0) = true := by simpa using he
    clear he
    go_enter Tryz.func55, Tryz.ntmps55
    go_wp2_with fail
    refine (HR.out _).mono ?_
    rintro e w1 ⟨rfl, hb⟩
    go_wp2_with fail
    go_ret2
    exact ⟨rfl, hb⟩
set_option maxRecDepth 100000 in
set_option maxHeartbeats 8000000 in
theorem refInsert_calls (l u : List UInt8) (hl : l.length ≤ 200000) (hu : u.length ≤ 200000) (k : Int) (w : World) :
    Calls Tryz.prog 56 #[.string (bs l), .int .i64 k, .string (bs u)] w fun e w' => e = .returned (.tuple #[.string (bs (sInsert l k u).1), .int .i64 (sInsert l k u).2]) ∧ Below w.heap.size w w' := by
  have HR := Lib.hid (fun W => refParse_calls l (by omega) W)
  have HP := Lib.hid (sRead_spans (l := l))
  obtain ⟨⟨⟨wi, bi, G⟩, sp, at_, er⟩, HS⟩ : ∃ r, Hid (sRead l = r) := ⟨_, rfl⟩
  have Hs : Hid (sInsert l k u = if er ≠ 0 then ([], er) else if k < 0 ∨ (sp.length : Int) < k then ([], 1) else if k = sp.length then sChanged (l ++ [10] ++ u)
    else sChanged (l.take (sp.getD k.toNat (0, 0)).1 ++ u ++ [10] ++ l.drop (sp.getD k.toNat (0, 0)).1)) := by show _ = _; unfold sInsert; rw [HS.out]
  rw [HS.out] at HR HP
  rw [Hs.out]
  have HO := Lib.hid (fun W => refOff5_calls k 0 (sp.length : Int) W)
  clear HS Hs
  have hsz : (bs l).size = l.length := bs_size l
  by_cases he : er = 0
  · subst he
    rw [if_neg (by decide)]
    by_cases hk : k < 0 ∨ (sp.length : Int) < k
    · rw [if_pos hk]
      have e1 : (decide (k < 0) || decide ((sp.length : Int) < k)) = true := by simpa using hk
      rw [e1] at HO
      clear hk e1
      go_enter Tryz.func56, Tryz.ntmps56
      go_wp2_with fail
      refine (HR.out _).mono ?_
      rintro e w1 ⟨gv, sv, gw, rfl, hg, hG, hsp, hb⟩
      obtain ⟨A, c, rfl⟩ := own_form hG.row
      obtain ⟨A2, c2, rfl⟩ := own_form hsp
      dsimp only
      go_wp2_with fail
      refine (HO.out _).mono ?_
      rintro e w2 ⟨rfl, rfl⟩
      go_wp2_with fail
      go_ret2
      exact ⟨rfl, hb.alloc hb.size _⟩
    · rw [if_neg hk]
      obtain ⟨i, rfl⟩ : ∃ i : Nat, k = i := ⟨k.toNat, by omega⟩
      rw [Int.toNat_natCast]
      have e1 : (decide ((i : Int) < 0) || decide ((sp.length : Int) < (i : Int))) = false := by simp; omega
      rw [e1] at HO
      have hi : i ≤ sp.length := by omega
      clear hk e1
      by_cases hi2 : i = sp.length
      · rw [if_pos (by omega), show l ++ [10] ++ u = l ++ 10 :: u by simp]
        have HC := Lib.hid (fun W => refChecked_calls (l ++ 10 :: u) (by simp; omega) W)
        obtain ⟨sc, HSC⟩ : ∃ r, Hid (sChanged (l ++ 10 :: u) = r) := ⟨_, rfl⟩
        rw [HSC.out] at HC ⊢
        have e1 : bs l ++ (⟨#[10]⟩ : ByteArray) = bs (l ++ [10]) := bs_append l [10]
        have e2 : bs (l ++ [10]) ++ bs u = bs (l ++ 10 :: u) := by rw [bs_append]; simp
        have hc1 : ¬ 9223372036854775807 < (bs l).size + 1 := by rw [bs_size]; omega
        have hc2 : ¬ 9223372036854775807 < (bs (l ++ [10])).size + (bs u).size := by rw [bs_size, bs_size, List.length_append]; simp only [List.length_singleton]; omega
        subst hi2
        clear HSC
        go_enter Tryz.func56, Tryz.ntmps56
        go_wp2_with fail
        refine (HR.out _).mono ?_
        rintro e w1 ⟨gv, sv, gw, rfl, hg, hG, hsp, hb⟩
        obtain ⟨A, c, rfl⟩ := own_form hG.row
        obtain ⟨A2, c2, rfl⟩ := own_form hsp
        dsimp only
        go_wp2_with fail
        refine (HO.out _).mono ?_
        rintro e w2 ⟨rfl, rfl⟩
        go_wp2_with fail
        refine (HC.out _).mono ?_
        rintro e w2 ⟨rfl, hb2⟩
        go_wp2_with fail
        go_ret2
        exact ⟨rfl, bt hb2 (hb.alloc hb.size _) (by have := hb.size; simp; omega)⟩
      · rw [if_neg (by omega)]
        have hi3 : i < sp.length := by omega
        have hne : ((i : Int) == (sp.length : Int)) = false := by rw [beq_eq_false_iff_ne]; omega
        have hne2 : (i == sp.length) = false := by rw [beq_eq_false_iff_ne]; omega
        have hp := HP.out (sp.getD i (0, 0)) (by rw [List.getD_eq_getElem?_getD, List.getElem?_eq_getElem hi3]; exact List.getElem_mem _)
        obtain ⟨p, Hp⟩ : ∃ p, Hid (sp.getD i (0, 0) = p) := ⟨sp.getD i (0, 0), rfl⟩
        rw [Hp.out] at hp ⊢
        obtain ⟨a, Ha⟩ : ∃ a, Hid (p.1 = a) := ⟨p.1, rfl⟩
        rw [Ha.out] at hp ⊢
        have ha := hp.1
        rw [show l.take a ++ u ++ [10] ++ l.drop a = l.take a ++ (u ++ 10 :: l.drop a) by simp]
        have HC := Lib.hid (fun W => refChecked_calls (l.take a ++ (u ++ 10 :: l.drop a)) (by simp; omega) W)
        obtain ⟨sc, HSC⟩ : ∃ r, Hid (sChanged (l.take a ++ (u ++ 10 :: l.drop a)) = r) := ⟨_, rfl⟩
        rw [HSC.out] at HC ⊢
        have ha1 : (a : Int) ≤ (l.length : Int) := by omega
        have ha0 : (0 : Int) ≤ (a : Int) := by omega
        have hi4 : (i : Int) < (sp.length : Int) := by omega
        have hi5 : (0 : Int) ≤ (i : Int) := by omega
        have e1 := bs_extract_to l a
        have e2 := bs_extract_from l a l.length (Nat.le_refl _)
        have e3 := bs_append (l.take a) u
        have e4 : bs (l.take a ++ u) ++ (⟨#[10]⟩ : ByteArray) = bs (l.take a ++ (u ++ [10])) := by rw [show (⟨#[10]⟩ : ByteArray) = bs [10] from rfl, bs_append, List.append_assoc]
        have e5 : bs (l.take a ++ (u ++ [10])) ++ bs (l.drop a) = bs (l.take a ++ (u ++ 10 :: l.drop a)) := by rw [bs_append]; simp
        have hc1 : ¬ 9223372036854775807 < (bs (l.take a)).size + (bs u).size := by rw [bs_size, bs_size, List.length_take]; omega
        have hc2 : ¬ 9223372036854775807 < (bs (l.take a ++ u)).size + 1 := by rw [bs_size, List.length_append, List.length_take]; omega
        have hc3 : ¬ 9223372036854775807 < (bs (l.take a ++ (u ++ [10]))).size + (bs (l.drop a)).size := by rw [bs_size, bs_size, List.length_append, List.length_append, List.length_take, List.length_drop]; simp only [List.length_singleton]; omega
        clear HSC hp HP hi2
        go_enter Tryz.func56, Tryz.ntmps56
        go_wp2_with fail
        refine (HR.out _).mono ?_
        rintro e w1 ⟨gv, sv, gw, rfl, hg, hG, hsp, hb⟩
        obtain ⟨A, c, rfl⟩ := own_form hG.row
        obtain ⟨gs, c2, rfl, hgs, k0, k1⟩ := prow_cells (sp := sp) hsp hi3
        rw [Hp.out, Ha.out] at k0
        dsimp only
        have hbd := (hb.alloc hb.size (.cells #[.int .i64 wi, .int .i64 bi, .slice A gw.length c] 25)).drew
        have hzd := hbd.size
        go_wp2_with fail
        refine (HO.out _).mono ?_
        rintro e w2 ⟨rfl, rfl⟩
        go_wp2_with fail
        go_region_law (go_simp; go_at_call 100; (with_reducible refine (HC.out _).mono ?_); rintro e w2 ⟨rfl, hb2⟩)
        all_goals
          have hb3 := bt hb2 hbd hzd
          clear HC hbd hb2
          go_wp2_with fail
          go_ret2
          exact ⟨rfl, hb3⟩
  · rw [if_pos he]
    have he0 : (er != 0) = true := by simpa using he
    clear he
    go_enter Tryz.func56, Tryz.ntmps56
    go_wp2_with fail
    refine (HR.out _).mono ?_
    rintro e w1 ⟨gv, sv, gw, rfl, hg, hG, hsp, hb⟩
    obtain ⟨A, c, rfl⟩ := own_form hG.row
    obtain ⟨A2, c2, rfl⟩ := own_form hsp
    go_wp2_with fail
    go_ret2
    exact ⟨rfl, hb.alloc hb.size _⟩
theorem placeP_cons (line from_ i : Int) (b : UInt8) (l : List UInt8) : placeP line from_ i (b :: l) = if b = 10 then placeP (line + 1) (i + 1) (i + 1) l else placeP line from_ (i + 1) l := rfl
set_option maxRecDepth 100000 in
set_option maxHeartbeats 4000000 in
theorem refPlace_calls (l : List UInt8) (hl : l.length ≤ 1000000) (k : Int) (w : World) :
    Calls Tryz.prog 57 #[.string (bs l), .int .i64 k] w fun e w' => e = .returned (.tuple #[.int .i64 (sPlace l k).1, .int .i64 (sPlace l k).2.1, .int .i64 (sPlace l k).2.2]) ∧ Below w.heap.size w w' := by
  have hsz : (bs l).size = l.length := bs_size l
  have Hs : Hid (sPlace l k = if 65536 < l.length then (0, 0, 11) else if k < 0 ∨ (l.length : Int) < k then (0, 0, 3) else ((placeP 1 0 0 (l.take k.toNat)).1, k - (placeP 1 0 0 (l.take k.toNat)).2 + 1, 0)) := rfl
  rw [Hs.out]
  clear Hs
  have HO := Lib.hid (fun W => refOff5_calls k 0 (l.length : Int) W)
  by_cases h1 : 65536 < l.length
  · rw [if_pos h1]
    go_enter Tryz.func57, Tryz.ntmps57
    go_wp2_with fail
    go_ret3
    exact ⟨rfl, Below.refl _ _⟩
  · rw [if_neg h1]
    by_cases hk : k < 0 ∨ (l.length : Int) < k
    · rw [if_pos hk]
      have e1 : (decide (k < 0) || decide ((l.length : Int) < k)) = true := by simpa using hk
      rw [e1] at HO
      clear hk e1
      go_enter Tryz.func57, Tryz.ntmps57
      go_wp2_with fail
      refine (HO.out _).mono ?_
      rintro e w2 ⟨rfl, rfl⟩
      go_wp2_with fail
      go_ret3
      exact ⟨rfl, Below.refl _ _⟩
    · rw [if_neg hk]
      obtain ⟨i, rfl⟩ : ∃ i : Nat, k = i := ⟨k.toNat, by omega⟩
      rw [Int.toNat_natCast]
      have e1 : (decide ((i : Int) < 0) || decide ((l.length : Int) < (i : Int))) = false := by simp; omega
      rw [e1] at HO
      have hi : i ≤ l.length := by omega
      obtain ⟨pp, Hpp⟩ : ∃ x, Hid (placeP 1 0 0 (l.take i) = x) := ⟨_, rfl⟩
      rw [Hpp.out]
      clear hk e1
      go_enter Tryz.func57, Tryz.ntmps57
      go_wp2_with fail
      refine (HO.out _).mono ?_
      rintro e w2 ⟨rfl, rfl⟩
      go_wp2_with fail
      go_loopg [7, 8, 9] i (fun gk s7 s8 s9 wr => ∃ (j : Nat) (ln fr : Int), j + gk = i ∧ s9 = .int .i64 j ∧ s7 = .int .i64 ln ∧ s8 = .int .i64 (j - fr + 1) ∧ 0 ≤ fr ∧ fr ≤ j ∧ 1 ≤ ln ∧ ln ≤ j + 1 ∧ Hid (placeP ln fr j ((l.take i).drop j) = pp) ∧ w = wr)
      case atStart => exact ⟨0, 1, 0, by omega, rfl, rfl, rfl, by omega, by omega, by omega, by omega, Hpp, rfl⟩
      case round =>
        clear Hpp
        obtain ⟨j, ln, fr, hj, rfl, rfl, rfl, hf0, hf1, hl0, hl1, Hj, rfl⟩ := hrel
        cases gk with
        | zero =>
          obtain rfl : j = i := by omega
          have Hv : Hid (pp = (ln, fr)) := by
            show _ = _
            rw [← Hj.out, List.drop_of_length_le (by rw [List.length_take]; omega)]; rfl
          go_wp2_with fail
          go_ret3
          exact ⟨by rw [Hv.out] <;> rfl, Below.refl _ _⟩
        | succ gk =>
          have hlt : j < (l.take i).length := by rw [List.length_take]; omega
          obtain ⟨c, hc, hg⟩ := drop_cons_get (l := l) (i := j) (by omega)
          have Hd : Hid ((l.take i).drop j = c :: (l.take i).drop (j + 1)) := by
            show _ = _
            rw [List.drop_eq_getElem_cons hlt]
            congr 1
            have h3 : l[j]? = some c := by
              have := congrArg (fun x => x[0]?) hc
              simpa using this
            have h2 : (l.take i)[j]? = some c := by rw [List.getElem?_take, if_pos (by omega), h3]
            rw [List.getElem?_eq_getElem hlt] at h2
            exact Option.some.inj h2
          have hjl : (j : Int) < (l.length : Int) := by omega
          have hj0 : (0 : Int) ≤ (j : Int) := by omega
          have hji : (j : Int) < (i : Int) := by omega
          clear hc hlt
          by_cases hcn : c = 10
          · have Hn : Hid (placeP (ln + 1) ((j + 1 : Nat) : Int) ((j + 1 : Nat) : Int) ((l.take i).drop (j + 1)) = pp) := by
              show _ = _; rw [← Hj.out, Hd.out, placeP_cons, if_pos hcn]; rfl
            have hcb : (((c.toNat : Nat) : Int) == 10) = true := by rw [hcn]; rfl
            clear hcn
            go_wp2_with fail
            go_roundg gk
            case measure => omega
            case rel => exact ⟨j + 1, ln + 1, ((j + 1 : Nat) : Int), by omega, by go_num, by go_num, by go_num, by omega, by omega, by omega, by omega, Hn, rfl⟩
          · have Hn : Hid (placeP ln fr ((j + 1 : Nat) : Int) ((l.take i).drop (j + 1)) = pp) := by
              show _ = _; rw [← Hj.out, Hd.out, placeP_cons, if_neg hcn]; rfl
            have hcb : (((c.toNat : Nat) : Int) == 10) = false := by
              rw [beq_eq_false_iff_ne]
              intro h
              exact hcn (UInt8.toNat_inj.1 (by simp; omega))
            clear hcn
            go_wp2_with fail
            go_roundg gk
            case measure => omega
            case rel => exact ⟨j + 1, ln, fr, by omega, by go_num, by go_num, by go_num, by omega, by omega, by omega, by omega, Hn, rfl⟩
end Go.Proofs.YtonnegkpjmhomaaGreatDoor
end
section
set_option linter.all false
namespace Go.Proofs.YtonnegkpjmhomaaGreatDoor
open Go.RowKit
set_option maxRecDepth 100000 in
set_option maxHeartbeats 8000000 in
theorem TextChanges_ok (l u : List UInt8) (hl : l.length ≤ 140737488351232) (hu : u.length ≤ 140737488351232) (gate at_ : Int) (w : World) (ht : Tabs w) :
    Calls Tryz.prog 23 #[.string (bs l), .string (bs u), .int .i64 gate, .int .i64 at_] w fun e w' => e = .returned (.bool true) ∧ Below w.heap.size w w' := by
  have HA := Lib.hid awake_calls
  have HT := Lib.hid ht
  clear ht
  by_cases hlong : (2000 < l.length ∧ l.length ≤ 65536) ∨ 65546 < l.length
  · have HL := Lib.hid (long_yes l hlong hl)
    go_enter Tryz.func23, Tryz.ntmps23
    go_wp2_with fail
    refine (HL.out _).mono ?_
    rintro e w' ⟨rfl, rfl⟩
    go_wp2_with fail
    refine (HA.out _ HT.out).mono ?_
    rintro e w1 ⟨rfl, hb⟩
    go_wp2_with fail
    go_ret
    exact ⟨rfl, hb⟩
  · have HL := Lib.hid (long_no l hlong)
    by_cases ulong : (2000 < u.length ∧ u.length ≤ 65536) ∨ 65546 < u.length
    · have HU := Lib.hid (long_yes u ulong hu)
      go_enter Tryz.func23, Tryz.ntmps23
      go_wp2_with fail
      refine (HL.out _).mono ?_
      rintro e w' ⟨rfl, rfl⟩
      go_wp2_with fail
      refine (HU.out _).mono ?_
      rintro e w' ⟨rfl, rfl⟩
      go_wp2_with fail
      refine (HA.out _ HT.out).mono ?_
      rintro e w1 ⟨rfl, hb⟩
      go_wp2_with fail
      go_ret
      exact ⟨rfl, hb⟩
    · have HU := Lib.hid (long_no u ulong)
      have hl2 : l.length ≤ 200000 := by omega
      have hu2 : u.length ≤ 200000 := by omega
      have hl3 : l.length ≤ 1000000 := by omega
      have R1 := Lib.hid (fun W => refWhere_calls l hl3 gate W)
      have R2 := Lib.hid (fun W => refPut_calls l u hl2 hu2 gate W)
      have R3 := Lib.hid (fun W => refInsert_calls l u hl2 hu2 gate W)
      have R4 := Lib.hid (fun W => refPlace_calls l hl3 at_ W)
      have P1 := Lib.hid (fun W (h : Tabs W) => Where_calls l hl3 gate W h)
      have P2 := Lib.hid (fun W (h : Tabs W) => Put_calls l u hl2 hu2 gate W h)
      have P3 := Lib.hid (fun W (h : Tabs W) => Insert_calls l u hl2 hu2 gate W h)
      have P4 := Lib.hid (fun W => Place_calls l hl3 at_ W)
      obtain ⟨⟨a1, a2, a3⟩, H1⟩ : ∃ r, Hid (sWhere l gate = r) := ⟨_, rfl⟩
      obtain ⟨⟨b1, b2⟩, H2⟩ : ∃ r, Hid (sPut l gate u = r) := ⟨_, rfl⟩
      obtain ⟨⟨c1, c2⟩, H3⟩ : ∃ r, Hid (sInsert l gate u = r) := ⟨_, rfl⟩
      obtain ⟨⟨d1, d2, d3⟩, H4⟩ : ∃ r, Hid (sPlace l at_ = r) := ⟨_, rfl⟩
      rw [H1.out] at R1 P1
      rw [H2.out] at R2 P2
      rw [H3.out] at R3 P3
      rw [H4.out] at R4 P4
      dsimp only at R1 R2 R3 R4 P1 P2 P3 P4
      clear H1 H2 H3 H4 hlong ulong hl2 hu2 hl3
      have ea1 : (a1 == a1) = true := beq_self_eq_true _
      have ea2 : (a2 == a2) = true := beq_self_eq_true _
      have ea3 : (a3 == a3) = true := beq_self_eq_true _
      have eb1 : ((bs b1).toList == (bs b1).toList) = true := beq_self_eq_true _
      have eb2 : (b2 == b2) = true := beq_self_eq_true _
      have ec1 : ((bs c1).toList == (bs c1).toList) = true := beq_self_eq_true _
      have ec2 : (c2 == c2) = true := beq_self_eq_true _
      have ed1 : (d1 == d1) = true := beq_self_eq_true _
      have ed2 : (d2 == d2) = true := beq_self_eq_true _
      have ed3 : (d3 == d3) = true := beq_self_eq_true _
      go_enter Tryz.func23, Tryz.ntmps23
      go_wp2_with fail
      refine (HL.out _).mono ?_
      rintro e w' ⟨rfl, rfl⟩
      go_wp2_with fail
      refine (HU.out _).mono ?_
      rintro e w' ⟨rfl, rfl⟩
      go_wp2_with fail
      refine (R1.out _).mono ?_
      rintro e w1 ⟨rfl, k1⟩
      go_wp2_with fail
      refine (R2.out _).mono ?_
      rintro e w2 ⟨rfl, k2⟩
      have k2 := bt k2 k1 k1.size
      clear k1
      go_wp2_with fail
      refine (R3.out _).mono ?_
      rintro e w3 ⟨rfl, k3⟩
      have k3 := bt k3 k2 k2.size
      clear k2
      go_wp2_with fail
      refine (R4.out _).mono ?_
      rintro e w4 ⟨rfl, k4⟩
      have k4 := bt k4 k3 k3.size
      clear k3
      go_wp2_with fail
      refine (P1.out _ (HT.out.below k4)).mono ?_
      rintro e w5 ⟨rfl, k5⟩
      have k5 := bt k5 k4 k4.size
      clear k4
      go_wp2_with fail
      refine (P2.out _ (HT.out.below k5)).mono ?_
      rintro e w6 ⟨rfl, k6⟩
      have k6 := bt k6 k5 k5.size
      clear k5
      go_wp2_with fail
      refine (P3.out _ (HT.out.below k6)).mono ?_
      rintro e w7 ⟨rfl, k7⟩
      have k7 := bt k7 k6 k6.size
      clear k6
      go_wp2_with fail
      refine (P4.out _).mono ?_
      rintro e w8 ⟨rfl, k8⟩
      have k8 := bt k8 k7 k7.size
      clear k7
      go_wp2_with fail
      refine (HA.out _ (HT.out.below k8)).mono ?_
      rintro e w9 ⟨rfl, k9⟩
      go_wp2_with fail
      go_ret
      exact ⟨rfl, bt k9 k8 k8.size⟩
end Go.Proofs.YtonnegkpjmhomaaGreatDoor
end
