import Derived.Test.YtmlloonbommkhaaGreatDoorDParses17
import Derived.Test.YtmlloonbommkhaaGreatDoorDParses18
set_option linter.all false
section
set_option linter.all false
namespace Go.Proofs.YtmlloonbommkhaaGreatDoor
open Go.RowKit
section
variable {l : List UInt8}
theorem readAt_ge (i : Nat) : i ≤ (readAt 3 [58, 59] l i).at_ := by
  unfold readAt
  split <;> exact Nat.le_add_right _ _
theorem tk_mono (k : Nat) (ws : List (List UInt8)) (f : Fm) : f.r.at_ ≤ (tk l k ws f).r.at_ := by
  show f.r.at_ ≤ (takesR 3 [58, 59] l k ws f).r.at_
  unfold takesR
  repeat' split
  · exact Nat.le_refl _
  · exact Nat.le_refl _
  · exact Nat.le_refl _
  · exact Nat.le_trans (Nat.le_add_right _ _) (readAt_ge _)
theorem tk_more {k : Nat} (hk : 2 < k) {f : Fm} (h : (tk l k [] f).wrong < 0) : f.r.at_ < (tk l k [] f).r.at_ := by
  have h : (takesR 3 [58, 59] l k [] f).wrong < 0 := h
  show f.r.at_ < (takesR 3 [58, 59] l k [] f).r.at_
  unfold takesR at h ⊢
  by_cases h1 : 0 ≤ f.wrong
  · rw [if_pos h1] at h; omega
  · rw [if_neg h1] at h ⊢
    by_cases h2 : takesB k [] f.r = false
    · rw [if_pos h2] at h
      have h : (f.r.at_ : Int) < 0 := h
      omega
    · rw [if_neg h2] at h ⊢
      by_cases h3 : 0 ≤ f.r.wrong
      · rw [if_pos h3] at h
        have h : f.r.wrong < 0 := h
        omega
      · rw [if_neg h3]
        refine Nat.lt_of_lt_of_le ?_ (readAt_ge _)
        have h4 : takesB k [] f.r = true := by simpa using h2
        unfold takesB at h4
        simp only [Bool.and_eq_true] at h4
        have h5 := h4.1.2
        have h6 : decide (k ≤ 2) = false := decide_eq_false (by omega)
        rw [h6, Bool.false_or] at h5
        have : f.r.text ≠ [] := by intro e; rw [e] at h5; simp at h5
        have := List.length_pos_iff.2 this
        omega
theorem wiresR_mono : ∀ (k : Nat) (f : Fm), f.r.at_ ≤ (wiresR l k f).2.r.at_
  | 0, _ => Nat.le_refl _
  | k + 1, f => Nat.le_trans (tk_mono 2 [] f) (wiresR_mono k _)
theorem ifR_mono (f : Fm) : f.r.at_ ≤ (ifR l f).2.r.at_ := by
  unfold ifR
  split
  · exact Nat.le_trans (tk_mono _ _ _) (Nat.le_trans (tk_mono _ _ _) (tk_mono _ _ _))
  · exact Nat.le_refl _
theorem gateR_more {f : Fm} (h : (gateR l f).2.2.wrong < 0) : f.r.at_ < (gateR l f).2.2.r.at_ := by
  refine Nat.lt_of_le_of_lt ?_ (tk_more (k := 59) (by decide) h)
  refine Nat.le_trans (ifR_mono (l := l) f) (Nat.le_trans (tk_mono (l := l) 1 (wordTab.map (·.1)) _) (Nat.le_trans (wiresR_mono (l := l) (arity (kindW (ifR l f).2.r.text)).toNat _) ?_))
  show _ ≤ (if kindW (ifR l f).2.r.text = 13 then (numR _, tk l 2 [] _) else ((0 : Int), _)).2.r.at_
  split
  · exact tk_mono _ _ _
  · exact Nat.le_refl _
theorem okT_wires : ∀ (k : Nat) {f : Fm}, OkT l f.r → OkT l (wiresR l k f).2.r
  | 0, _, h => h
  | k + 1, _, h => okT_wires k (okT_tk h _ _)
theorem okT_if {f : Fm} (h : OkT l f.r) : OkT l (ifR l f).2.r := by
  unfold ifR
  split
  · exact okT_tk (okT_tk (okT_tk h _ _) _ _) _ _
  · exact h
theorem okT_gate {f : Fm} (h : OkT l f.r) : OkT l (gateR l f).2.2.r := by
  refine okT_tk ?_ _ _
  have h1 : OkT l (wiresR l (arity (kindW (ifR l f).2.r.text)).toNat (tk l 1 (wordTab.map (·.1)) (ifR l f).2)).2.r := okT_wires _ (okT_tk (okT_if h) _ _)
  show OkT l (if kindW (ifR l f).2.r.text = 13 then (numR _, tk l 2 [] _) else ((0 : Int), _)).2.r
  split
  · exact okT_tk h1 _ _
  · exact h1
theorem okT_head {f : Fm} (h : OkT l f.r) : OkT l (headR l f).2.2.r := by
  refine okT_tk ?_ _ _
  have h1 : OkT l (tk l 2 [] (tk l 1 [[119, 105, 114, 101, 115]] f)).r := okT_tk (okT_tk h _ _) _ _
  show OkT l (if isR [98, 105, 116, 115] _ then (numR _, tk l 2 [] (tk l 1 [] _)) else ((0 : Int), _)).2.r
  split
  · exact okT_tk (okT_tk h1 _ _) _ _
  · exact h1
theorem gatesR_end {n : Nat} {f : Fm} (h : 0 ≤ f.wrong ∨ f.r.none = true) : gatesR l n f = ([], [], f) := by
  cases n with
  | zero => rfl
  | succ n => rw [gatesR, if_pos (by rcases h with h | h; exact .inl h; exact .inr h)]
theorem gatesR_step {n : Nat} {f : Fm} (h1 : f.wrong < 0) (h2 : f.r.none = false) : gatesR l (n + 1) f =
    ((gateR l f).1 :: (gatesR l n (gateR l f).2.2).1, (f.r.at_, (gateR l f).2.1.r.at_ + (gateR l f).2.1.r.text.length) :: (gatesR l n (gateR l f).2.2).2.1, (gatesR l n (gateR l f).2.2).2.2) := by
  rw [gatesR, if_neg (by rintro (h | h); omega; rw [h2] at h; cases h)]
theorem wiresR_len : ∀ (k : Nat) (f : Fm), (wiresR l k f).1.length = k
  | 0, _ => rfl
  | k + 1, f => by rw [wiresR, List.length_cons, wiresR_len k]
theorem gatesR_wires : ∀ {n : Nat} {f : Fm} {g : Gt}, g ∈ (gatesR l n f).1 → g.wires.length ≤ 3
  | 0, _, _, h => by cases h
  | n + 1, f, g, h => by
    rw [gatesR] at h
    split at h
    · cases h
    · rcases List.mem_cons.1 h with rfl | h
      · show (wiresR l _ _).1.length ≤ 3
        rw [wiresR_len]
        have := (arity_range (kindW (ifR l f).2.r.text)).2
        omega
      · exact gatesR_wires h
end
theorem infoPair : (Tryz.prog.info? 74).map (fun i => (i.zero, i.size, i.bytes)) = some (some (.agg #[.int .i64 0, .int .i64 0]), 2, 16) := by kernel_rfl
theorem own_blk_of {w : World} {base size n : Nat} {e : TypeId} {v : Value} {xs : List Value} (h : w.ownsRow base e size v n xs) {k : Nat} (hk : v.ownBlock = some k) : base ≤ k ∧ ∃ cur, Blk w k e cur := by
  rcases h.2 with ⟨rfl, _⟩ | ⟨g, cap, cur, rfl, hb, hc, _⟩
  · simp [Value.ownBlock] at hk
  · have e2 : g = k := by simpa [Value.ownBlock] using hk
    subst e2
    exact ⟨hb, cur, hc⟩
structure PSt (w wx : World) (F B : Nat) (l : List UInt8) (f : Fm) (a b gv : Value) (gw : List (Gt × Value)) (sv : Value) (sp : List (Nat × Nat)) : Prop where
  fm : FmAt wx F l f
  res : Blk wx w.heap.size 43 #[.int .i64 0, .int .i64 0, .slice none 0 0]
  c : Blk wx B 43 #[a, b, gv]
  sp : wx.ownsRow w.heap.size 74 2 sv sp.length (spansC sp)
  gs : GsAt wx w.heap.size gv gw
  kept : Below w.heap.size w wx
  hF : w.heap.size ≤ F
  hB : w.heap.size ≤ B
  hne : w.heap.size ≠ B
theorem PSt.below {w wx w' : World} {F B : Nat} {l : List UInt8} {f : Fm} {a b gv sv : Value} {gw : List (Gt × Value)} {sp : List (Nat × Nat)} (h : PSt w wx F B l f a b gv gw sv sp) (hb : Below wx.heap.size wx w') : PSt w w' F B l f a b gv gw sv sp := by
  obtain ⟨h1, h2, h3, h4, h5, h6, h8, h9, h10⟩ := h
  exact ⟨Blk.below h1 hb h1.lt, h2.below hb h2.lt, h3.below hb h3.lt, own_below h4 hb (Nat.le_refl _), h5.below hb, h6.trans (hb.mono h6.size), h8, h9, h10⟩
theorem PSt.took {w wx w' : World} {F B : Nat} {l : List UInt8} {f f2 : Fm} {a b gv sv : Value} {gw : List (Gt × Value)} {sp : List (Nat × Nat)} (h : PSt w wx F B l f a b gv gw sv sp) (hf : FmAt w' F l f2) (hg : wx.grownBy w' (some F)) : PSt w w' F B l f2 a b gv gw sv sp := by
  obtain ⟨h1, h2, h3, h4, h5, h6, h8, h9, h10⟩ := h
  have e0 := h2.ne_ h1 (by decide)
  have e1 := h3.ne_ h1 (by decide)
  exact ⟨hf, h2.grown hg (fun e => e0 (by injection e)), h3.grown hg (fun e => e1 (by injection e)), h4.kept hg (.inr (own_blk_ne h4 h1 (by decide))), h5.far h1 (by decide) (by decide) hg, below_grown' h6 hg h8, h8, h9, h10⟩
theorem PSt.put {w wx : World} {F B : Nat} {l : List UInt8} {f : Fm} {a b gv a' b' sv : Value} {gw : List (Gt × Value)} {sp : List (Nat × Nat)} (h : PSt w wx F B l f a b gv gw sv sp) (i : Nat) (v : Value) (he : #[a, b, gv].setIfInBounds i v = #[a', b', gv]) :
    PSt w (wx.setCell ⟨B, i, none⟩ v) F B l f a' b' gv gw sv sp := by
  obtain ⟨h1, h2, h3, h4, h5, h6, h8, h9, h10⟩ := h
  have hg : wx.grownBy (wx.setCell ⟨B, i, none⟩ v) (some B) := grown_set ⟨rfl, rfl, rfl, Nat.le_refl _, fun _ _ _ => rfl⟩ i v
  have e1 := h1.ne_ h3 (by decide)
  exact ⟨Blk.grown h1 hg (fun e => e1 (by injection e with e)), h2.far h10 _, by rw [← he]; exact h3.set_ i v, h4.kept hg (.inr (own_blk_ne h4 h3 (by decide))), h5.far h3 (by decide) (by decide) hg, below_grown' h6 hg h9, h8, h9, h10⟩
theorem PSt.app {w wx w7 : World} {F B : Nat} {l : List UInt8} {f : Fm} {a b gv v' sv : Value} {gw : List (Gt × Value)} {sp : List (Nat × Nat)} {row : Option Nat} {p : Gt × Value}
    (h : PSt w wx F B l f a b gv gw sv sp) (hp : wx.ownsRow w.heap.size 3 1 p.2 p.1.wires.length (p.1.wires.map (Value.int .i64)))
    (hown : w7.ownsRow w.heap.size 55 4 v' (gw.length + 1) (gatesC gw ++ gateC p)) (hg : wx.grownBy w7 row) (hrr : ∀ g, row = some g → w.heap.size ≤ g ∧ ∃ cur, Blk wx g 55 cur) :
    PSt w (w7.setCell ⟨B, 2, none⟩ v') F B l f a b v' (gw ++ [p]) sv sp := by
  obtain ⟨h1, h2, h3, h4, h5, h6, h8, h9, h10⟩ := h
  have ne_ : ∀ {g : Nat} {t : TypeId} {cs : Array Value}, Blk wx g t cs → t ≠ 55 → row ≠ some g := fun hb ht e => by
    obtain ⟨_, cur, hc⟩ := hrr _ e
    exact hc.ne_ hb (Ne.symm ht) rfl
  have own_ : ∀ {base : Nat} {t : TypeId} {size n : Nat} {v : Value} {xs : List Value}, wx.ownsRow base t size v n xs → t ≠ 55 → w7.ownsRow base t size v n xs := fun ho ht => ho.kept hg (by
    cases hrw : row with
    | none => exact Classical.em _
    | some g => obtain ⟨_, cur, hb⟩ := hrr g hrw; exact .inr (own_blk_ne ho hb ht))
  have hs : w7.grownBy (w7.setCell ⟨B, 2, none⟩ v') (some B) := grown_set ⟨rfl, rfl, rfl, Nat.le_refl _, fun _ _ _ => rfl⟩ 2 v'
  have k1 : FmAt w7 F l f := Blk.grown h1 hg (fun e => ne_ h1 (by decide) e.symm)
  have k2 := h2.grown hg (fun e => ne_ h2 (by decide) e.symm)
  have k3 := h3.grown hg (fun e => ne_ h3 (by decide) e.symm)
  have k4 := own_ h4 (by decide)
  have e1 := k1.ne_ k3 (by decide)
  refine ⟨Blk.grown k1 hs (fun e => e1 (by injection e with e)), k2.far h10 _, k3.set_ 2 v', k4.kept hs (.inr (own_blk_ne k4 k3 (by decide))), ⟨?_, ?_⟩, ?_, h8, h9, h10⟩
  · rw [gatesC_snoc, List.length_append]
    exact hown.kept hs (.inr (own_blk_ne hown k3 (by decide)))
  · intro q hq
    have hq2 : wx.ownsRow w.heap.size 3 1 q.2 q.1.wires.length (q.1.wires.map (Value.int .i64)) := by
      rcases List.mem_append.1 hq with hq | hq
      · exact h5.each q hq
      · rw [List.mem_singleton.1 hq]; exact hp
    have hq3 := own_ hq2 (by decide)
    exact hq3.kept hs (.inr (own_blk_ne hq3 k3 (by decide)))
  · have b7 : Below w.heap.size w w7 := ⟨hg.os.trans h6.os, hg.tape.trans h6.tape, hg.output.trans h6.output, Nat.le_trans h6.size hg.size, fun j hj => (hg.block j (Nat.lt_of_lt_of_le hj h6.size) (fun e => by have := (hrr j e.symm).1; omega)).trans (h6.block j hj)⟩
    exact b7.setCell h9 _
theorem PSt.span {w wx w7 : World} {F B : Nat} {l : List UInt8} {f : Fm} {a b gv v' sv : Value} {gw : List (Gt × Value)} {sp : List (Nat × Nat)} {row : Option Nat} {p : Nat × Nat}
    (h : PSt w wx F B l f a b gv gw sv sp)
    (hown : w7.ownsRow w.heap.size 74 2 v' (sp.length + 1) (spansC sp ++ [.int .i64 p.1, .int .i64 p.2])) (hg : wx.grownBy w7 row) (hrr : ∀ g, row = some g → w.heap.size ≤ g ∧ ∃ cur, Blk wx g 74 cur) :
    PSt w w7 F B l f a b gv gw v' (sp ++ [p]) := by
  obtain ⟨h1, h2, h3, h4, h5, h6, h8, h9, h10⟩ := h
  have ne_ : ∀ {g : Nat} {t : TypeId} {cs : Array Value}, Blk wx g t cs → t ≠ 74 → row ≠ some g := fun hb ht e => by
    obtain ⟨_, cur, hc⟩ := hrr _ e
    exact hc.ne_ hb (Ne.symm ht) rfl
  have own_ : ∀ {base : Nat} {t : TypeId} {size n : Nat} {v : Value} {xs : List Value}, wx.ownsRow base t size v n xs → t ≠ 74 → w7.ownsRow base t size v n xs := fun ho ht => ho.kept hg (by
    cases hrw : row with
    | none => exact Classical.em _
    | some g => obtain ⟨_, cur, hb⟩ := hrr g hrw; exact .inr (own_blk_ne ho hb ht))
  refine ⟨Blk.grown h1 hg (fun e => ne_ h1 (by decide) e.symm), h2.grown hg (fun e => ne_ h2 (by decide) e.symm), h3.grown hg (fun e => ne_ h3 (by decide) e.symm), ?_, ⟨own_ h5.row (by decide), fun q hq => own_ (h5.each q hq) (by decide)⟩, ?_, h8, h9, h10⟩
  · rw [spansC_snoc, List.length_append]
    exact hown
  · exact ⟨hg.os.trans h6.os, hg.tape.trans h6.tape, hg.output.trans h6.output, Nat.le_trans h6.size hg.size, fun j hj => (hg.block j (Nat.lt_of_lt_of_le hj h6.size) (fun e => by have := (hrr j e.symm).1; omega)).trans (h6.block j hj)⟩
def RpPost (r : Ct × List (Nat × Nat) × Int × Int) (w : World) (e : Ending) (w' : World) : Prop :=
  ∃ gv sv gw, e = .returned (.tuple #[.agg #[.int .i64 r.1.wires, .int .i64 r.1.bits, gv], sv, .int .i64 r.2.2.1, .int .i64 r.2.2.2]) ∧ gw.map (·.1) = r.1.gates ∧
    GsAt w' w.heap.size gv gw ∧ w'.ownsRow w.heap.size 74 2 sv r.2.1.length (spansC r.2.1) ∧ Below w.heap.size w w'
theorem rp_none {w w' : World} (at_ er : Int) (hb : Below w.heap.size w w') : RpPost (Ct.zero, [], at_, er) w (.returned (.tuple #[.agg #[.int .i64 0, .int .i64 0, .slice none 0 0], .slice none 0 0, .int .i64 at_, .int .i64 er])) w' :=
  ⟨.slice none 0 0, .slice none 0 0, [], rfl, rfl, ⟨World.ownsRow_nil _ _ _ _, fun p hp => by cases hp⟩, World.ownsRow_nil _ _ _ _, hb⟩
theorem Blk.at9 {w : World} {g : Nat} {t : TypeId} {a b c d e f h i j k : Value} (H : Blk w g t #[a, b, c, d, e, f, h, i, j, k]) : w.cell? ⟨g, 9, none⟩ = some k := H.cell 9
set_option maxRecDepth 100000 in
set_option maxHeartbeats 16000000 in
theorem refParse_walk (l : List UInt8) (hl : l.length ≤ 65536) (f0 fH fE : Fm) (m b : Int) (G : List Gt) (sp : List (Nat × Nat))
    (H0 : Hid (Fm.mk (readAt 3 [58, 59] l 0) (-1) = f0)) (H1 : Hid (headR l f0 = (m, b, fH))) (H2 : Hid (gatesR l (l.length + 1) fH = (G, sp, fE))) (w : World) :
    Calls Tryz.prog 21 #[.string (bs l)] w (RpPost (rdEnd l.length m b G sp ⟨0, fE.wrong⟩) w) := by
  have hsz : (bs l).size = l.length := bs_size l
  have hl6 : l.length ≤ 1000000 := by omega
  have ok0 : OkT l f0.r := by rw [← H0.out]; exact okT_at l 0 (Nat.zero_le _)
  have okH : OkT l fH.r := by have := okT_head ok0; rw [H1.out] at this; exact this
  have HR := Lib.hid (fun W => refRead_calls l hl6 W)
  have e0 : readAt 3 [58, 59] l 0 = f0.r := by rw [← H0.out]
  have w0 : f0.wrong = -1 := by rw [← H0.out]
  rw [e0] at HR
  unfold rdC at HR
  have HH := Lib.hid (fun F W h => header_calls F l hl6 f0 ok0 W h)
  rw [H1.out] at HH
  have OkH := Lib.hid okH
  have W0 := Lib.hid w0
  clear H0 H1 e0 w0 ok0 okH
  go_enter Tryz.func21, Tryz.ntmps21
  go_wp2_with fail
  refine (HR.out _).mono ?_
  rintro e w1 ⟨rfl, hb1⟩
  have h0 : PSt w ((w1.alloc (.cells (fmC l f0) 84)).alloc (.cells #[.int .i64 0, .int .i64 0, .slice none 0 0] 43)) w1.heap.size (w1.heap.size + 1) l f0 (.int .i64 0) (.int .i64 0) (.slice none 0 0) [] (.slice none 0 0) [] := by
    have hbw := below1 w (.cells #[.int .i64 0, .int .i64 0, .slice none 0 0] 43)
    have hbx := below2 w1 (.cells (fmC l f0) 84) (.cells #[.int .i64 0, .int .i64 0, .slice none 0 0] 43)
    have hba : Below w.heap.size w w1 := bt hb1 hbw (by simp)
    have hz1 := hb1.size
    simp at hz1
    have hres : Blk w1 w.heap.size 43 #[.int .i64 0, .int .i64 0, .slice none 0 0] := (Blk.new w _ _).below hb1 (by simp)
    exact ⟨(Blk.new w1 _ _).alloc _, hres.below hbx hres.lt, Blk.at_ _ _ _ (by simp), World.ownsRow_nil _ _ _ _, ⟨World.ownsRow_nil _ _ _ _, fun p hp => by cases hp⟩, bt hbx hba hba.size, by omega, by omega, by omega⟩
  unfold fmC at h0
  rw [W0.out] at h0
  clear hb1 HR
  go_upto_region 6 with fail
  generalize (w1.alloc (.cells #[.string (bs l), .int .i64 3, .string (bs [58, 59]), .int .i64 f0.r.at_, .int .i64 f0.r.at_, .int .i64 f0.r.kind, .string (bs f0.r.text), .int .i64 f0.r.wrong, .bool f0.r.none, .int .i64 (-1)] 84)).alloc (.cells #[.int .i64 0, .int .i64 0, .slice none 0 0] 43) = wa at *
  generalize w1.heap.size + 1 = B at *
  generalize w1.heap.size = F at *
  go_wp2_with fail
  refine (HH.out _ _ h0.fm).mono ?_
  rintro e w2 ⟨rfl, h2, g2⟩
  have h2 := h0.took h2 g2
  have y0 := h2.c.cell 0
  have y1 := h2.c.cell 1
  have yf := h2.c.frozen
  simp at y0 y1
  have H3 := Lib.hid ((h2.put 0 (.int .i64 m) (a' := .int .i64 m) (b' := .int .i64 0) rfl).put 1 (.int .i64 b) (a' := .int .i64 m) (b' := .int .i64 b) rfl)
  clear h0 h2 g2 HH W0
  go_upto_block 0 with fail
  clear y0 y1 yf
  go_cut [8, 9, 10, 11] from 28 to 58 (fun s8 _ _ _ wx => ∃ gv gw, PSt w wx F B l fE (.int .i64 m) (.int .i64 b) gv gw s8 sp ∧ gw.map (·.1) = G)
  case first =>
    go_wp2_with fail
    go_loopg [8, 9, 10, 11] (l.length + 1) (fun gk s8 _ _ _ wr => ∃ (pre : List Gt) (presp : List (Nat × Nat)) (fj : Fm) (gv : Value) (gw : List (Gt × Value)), (G, sp, fE) = (pre ++ (gatesR l gk fj).1, presp ++ (gatesR l gk fj).2.1, (gatesR l gk fj).2.2) ∧
      PSt w wr F B l fj (.int .i64 m) (.int .i64 b) gv gw s8 presp ∧ gw.map (·.1) = pre ∧ OkT l fj.r ∧ (fj.wrong < 0 → l.length + 1 ≤ fj.r.at_ + gk) ∧ presp.length + gk ≤ l.length + 1 ∧ pre.length + gk ≤ l.length + 1)
    case atStart => exact ⟨[], [], fH, _, [], by rw [H2.out]; rfl, H3.out, rfl, OkH.out, by omega, by simp, by simp⟩
    case round =>
      clear H2 H3 OkH
      obtain ⟨pre, presp, fj, gv, gw, hG, h, hgw, hok, hfu, hn1, hn2⟩ := hrel
      have HG := Lib.hid hG
      have Hgw := Lib.hid hgw
      clear hG hgw
      obtain ⟨x0, x1, x2, x3, x4, x5, x6, x7, x8, x9, xf⟩ := Blk.cells10 h.fm
      by_cases hw : fj.wrong < 0
      · have d1 : decide (fj.wrong < 0) = true := decide_eq_true hw
        cases hn : fj.r.none
        · rw [hn] at x8
          have hfu := hfu hw
          have hal : fj.r.at_ ≤ l.length := by have := hok.1; unfold OkR at this; omega
          obtain ⟨g, HG0⟩ : ∃ g, gk = g + 1 := ⟨gk - 1, by omega⟩
          subst HG0
          have HG2 : Hid ((G, sp, fE) = ((pre ++ [(gateR l fj).1]) ++ (gatesR l g (gateR l fj).2.2).1, (presp ++ [(fj.r.at_, (gateR l fj).2.1.r.at_ + (gateR l fj).2.1.r.text.length)]) ++ (gatesR l g (gateR l fj).2.2).2.1, (gatesR l g (gateR l fj).2.2).2.2)) := by
            show _ = _
            rw [HG.out, gatesR_step hw hn]; simp
          have Hok2 := Lib.hid (okT_gate hok)
          have Hfk : Hid ((gateR l fj).2.2.wrong < 0 → l.length + 1 ≤ (gateR l fj).2.2.r.at_ + g) := fun h => by have := gateR_more h; omega
          have HGt := Lib.hid (fun W h => refGate_calls F l hl6 fj hok W h)
          obtain ⟨⟨g1, d1', f1⟩, Hg1⟩ : ∃ x, Hid (gateR l fj = x) := ⟨_, rfl⟩
          rw [Hg1.out] at HGt HG2 Hok2 Hfk
          dsimp only at HGt HG2 Hok2 Hfk
          generalize d1'.r.at_ + d1'.r.text.length = q at *
          clear HG Hg1 hok hfu hn
          obtain ⟨A2, c2, rfl⟩ := own_form h.sp
          obtain ⟨A, cc, rfl⟩ := own_form h.gs.row
          have hgl : gw.length = pre.length := by have := congrArg List.length Hgw.out; rw [List.length_map] at this; exact this
          have hml : gw.length + 1 ≤ maxLen := by unfold maxLen; omega
          have hml9 : gw.length ≤ 65536 := by omega
          have hml2 : presp.length + 1 ≤ maxLen := by unfold maxLen; omega
          have hml8 : presp.length ≤ 65536 := by omega
          obtain ⟨j0, hinf, hz0, hz1, hz2⟩ := info_parts infoGate
          obtain ⟨p0, hinf2, hz3, hz4, hz5⟩ := info_parts infoPair
          have Hgl := Lib.hid hgl
          have HkS := Lib.hid h.kept.size
          clear hgl
          go_wp2_with fail
          refine (HGt.out _ h.fm).mono ?_
          rintro e w6 ⟨wv, rfl, hw6, hf6, g6⟩
          obtain ⟨A6, c6, rfl⟩ := own_form hw6
          have hw6 := own_base hw6 HkS.out
          have h6 := h.took hf6 g6
          clear hf6 g6 h HGt x0 x1 x2 x3 x4 x5 x6 x7 x8 x9 xf
          have h7 := h6.below (below1 w6 (.cells #[.int .i64 g1.kind, .slice A6 g1.wires.length c6, .int .i64 g1.bit, .int .i64 g1.ifn] 55))
          have hw7 := own_below hw6 (below1 w6 (.cells #[.int .i64 g1.kind, .slice A6 g1.wires.length c6, .int .i64 g1.bit, .int .i64 g1.ifn] 55)) (Nat.le_refl _)
          have b7 := Blk.new w6 55 #[.int .i64 g1.kind, .slice A6 g1.wires.length c6, .int .i64 g1.bit, .int .i64 g1.ifn]
          clear h6 hw6
          go_upto_region 9 with fail
          generalize w6.alloc (.cells #[.int .i64 g1.kind, .slice A6 g1.wires.length c6, .int .i64 g1.bit, .int .i64 g1.ifn] 55) = w7 at *
          generalize w6.heap.size = D at *
          obtain ⟨z0, z1, z2, z3, zf⟩ := b7.cells4
          have y2 := h7.c.cell 2
          have yf := h7.c.frozen
          simp at y2
          have hks7 := h7.kept.size
          have h8 := h7.below (below1 w7 (.cells #[.int .i64 g1.kind, .slice A6 g1.wires.length c6, .int .i64 g1.bit, .int .i64 g1.ifn] 55))
          have hw8 := own_below hw7 (below1 w7 (.cells #[.int .i64 g1.kind, .slice A6 g1.wires.length c6, .int .i64 g1.bit, .int .i64 g1.ifn] 55)) (Nat.le_refl _)
          go_upto_region 10 with (at_builtin; refine wpList_append_own _ rfl _ _ 41 rfl w.heap.size 55 j0 _ 4 48 Tryz.underlying41 hinf hz0 hz1 hz2 rfl (by decide) _ _ _ rfl h8.gs.row ⟨w7.heap.size, 0, none⟩ 1 1 [.int .i64 g1.kind, .slice A6 g1.wires.length c6, .int .i64 g1.bit, .int .i64 g1.ifn] rfl rfl (row_new _ _ _) (by simp [Value.oneCell']) hml (by omega) (by simp; omega) ?_; intro v' w9 hown' hgrow _; obtain ⟨g', cap', rfl⟩ := ownsRow_succ hown'; have hrr2 := (fun g e => own_blk_of (k := g) h8.gs.row e); have h9c := h8.c.grown hgrow (fun e => by obtain ⟨_, cur, hb⟩ := hrr2 _ e.symm; exact hb.ne_ h8.c (by decide) rfl); clear y2 yf; have y2 := h9c.cell 2; have yf := h9c.frozen; simp at y2)
          have h10 := h8.app (p := (g1, .slice A6 g1.wires.length c6)) hw8 hown' hgrow hrr2
          clear h7 h8 h9c hown' hgrow hrr2 hw7 hw8 y2 yf z0 z1 z2 z3 zf b7 hks7
          generalize w9.setCell ⟨B, 2, none⟩ (.slice (some ⟨g', 0, none⟩) (gw.length + 1) cap') = w10 at *
          have hks := h10.kept.size
          have h11 := h10.below (below1 w10 (.cells #[.int .i64 fj.r.at_, .int .i64 q] 74))
          go_wp2_with (at_builtin; refine wpList_append_own _ rfl _ _ 44 rfl w.heap.size 74 p0 _ 2 16 Tryz.underlying44 hinf2 hz3 hz4 hz5 rfl (by decide) _ _ _ rfl h11.sp ⟨w10.heap.size, 0, none⟩ 1 1 [.int .i64 fj.r.at_, .int .i64 q] rfl rfl (row_new _ _ _) (by simp [Value.oneCell']) hml2 (by omega) (by simp; omega) ?_; intro v'' w12 hown2 hgrow2 _; obtain ⟨g'', cap'', rfl⟩ := ownsRow_succ hown2)
          have H12 := Lib.hid (h11.span (p := (fj.r.at_, q)) hown2 hgrow2 (fun g e => own_blk_of (k := g) h11.sp e))
          clear h10 h11 hown2 hgrow2
          go_roundg g
          case measure => omega
          case rel => exact ⟨pre ++ [g1], presp ++ [(fj.r.at_, q)], f1, _, gw ++ [(g1, .slice A6 g1.wires.length c6)], HG2.out, H12.out, by rw [List.map_append, Hgw.out]; rfl, Hok2.out, Hfk.out, by simp; omega, by simp; omega⟩
        · rw [hn] at x8
          have HE : Hid ((G, sp, fE) = (pre, presp, fj)) := by show _ = _; rw [HG.out, gatesR_end (.inr hn)]; simp
          clear HG hn
          go_wp2_with fail
          go_meet
          have HE2 := HE.out
          injection HE2 with e1 e2
          injection e2 with e2 e3
          subst e1 e2 e3
          exact ⟨_, gw, h, Hgw.out⟩
      · have d1 : decide (fj.wrong < 0) = false := decide_eq_false hw
        have HE : Hid ((G, sp, fE) = (pre, presp, fj)) := by show _ = _; rw [HG.out, gatesR_end (.inl (by omega))]; simp
        clear HG
        go_wp2_with fail
        go_meet
        have HE2 := HE.out
        injection HE2 with e1 e2
        injection e2 with e2 e3
        subst e1 e2 e3
        exact ⟨_, gw, h, Hgw.out⟩
  case rest =>
    have Hg5 : Hid ((gatesR l (l.length + 1) fH).1 = G) := by show _ = _; rw [H2.out]
    clear H2 H3 OkH
    obtain ⟨gv, gw, h, hG⟩ := hcut
    have HG := Lib.hid hG
    clear hG
    obtain ⟨A, cc, hgv⟩ := own_form h.gs.row
    subst hgv
    obtain ⟨A2, c2, rfl⟩ := own_form h.sp
    have hrb : Blk wc F 84 (fmC l fE) := h.fm
    unfold fmC at hrb
    have hRw : F ≠ w.heap.size := (h.res.ne_ h.fm (by decide)).symm
    obtain ⟨x0, x1, x2, x3, x4, x5, x6, x7, x8, x9, xf⟩ := Blk.cells10 h.fm
    have z0 := h.res.cell 0
    have z1 := h.res.cell 1
    have z2 := h.res.cell 2
    have zf := h.res.frozen
    simp at z0 z1 z2
    by_cases hw : 0 ≤ fE.wrong
    · have HR : Hid (rdEnd l.length m b G sp ⟨0, fE.wrong⟩ = (Ct.zero, [], fE.wrong, 4)) := by show _ = _; unfold rdEnd; rw [if_pos hw]
      go_wp2_with fail
      go_region_held3 (fun W => W.cell? ⟨F, 9, none⟩ = some (.int .i64 fE.wrong)) ((with_reducible refine Blk.at9 (t := 84) (a := .string (bs l)) (b := .int .i64 3) (c := .string (bs [58, 59])) (d := .int .i64 fE.r.at_) (e := .int .i64 fE.r.at_) (f := .int .i64 fE.r.kind) (h := .string (bs fE.r.text)) (i := .int .i64 fE.r.wrong) (j := .bool fE.r.none) ?_) <;> (repeat (first | (with_reducible exact hrb) | ((with_reducible refine Blk.far' ?_ _ ?_); (focus ((try dsimp only); exact hRw))) | (with_reducible refine Blk.drew ?_)))) (fail)
      go_wp2_with fail
      refine bodyPost_ret (v := .tuple #[.agg #[.int .i64 0, .int .i64 0, .slice none 0 0], .slice none 0 0, .int .i64 fE.wrong, .int .i64 4]) (by simp [results, Tryz.results21, go_sem, z0, z1, z2]) rfl ?_
      rw [HR.out]
      refine rp_none _ _ ?_
      have hk := h.kept
      first | exact below_put3 hk (Nat.le_refl _) _ _ _ | exact (below_put3 hk (Nat.le_refl _) _ _ _).drew
    · have hgs := h.gs.gates
      rw [HG.out] at hgs
      have HC := Lib.hid (refCheck_calls m b (.slice A gw.length cc) G _ wc (Nat.le_refl _) hgs (by rw [← Hg5.out]; exact fun g hg => Nat.le_trans (gatesR_wires hg) (by decide)))
      have HR : Hid (rdEnd l.length m b G sp ⟨0, fE.wrong⟩ = if chkC ⟨m, b, G⟩ ≠ 0 then (Ct.zero, [], (l.length : Int), chkC ⟨m, b, G⟩) else (⟨m, b, G⟩, sp, 0, 0)) := by show _ = _; unfold rdEnd; rw [if_neg hw]
      generalize chkC ⟨m, b, G⟩ = er at *
      have y0 := h.c.cell 0
      have y1 := h.c.cell 1
      have y2 := h.c.cell 2
      have yf := h.c.frozen
      simp at y0 y1 y2
      clear hrb hgs
      go_wp2_with fail
      refine HC.out.mono ?_
      rintro e w5 ⟨rfl, hb5⟩
      have h := h.below hb5
      clear HC y0 y1 y2 yf z0 z1 z2 zf x0 x1 x2 x3 x4 x5 x6 x7 x8 x9 xf hb5
      have z0 := h.res.cell 0
      have z1 := h.res.cell 1
      have z2 := h.res.cell 2
      have zf := h.res.frozen
      have y0 := h.c.cell 0
      have y1 := h.c.cell 1
      have y2 := h.c.cell 2
      simp at z0 z1 z2 y0 y1 y2
      have hk := h.kept
      by_cases he : er = 0
      · have HR2 : Hid (rdEnd l.length m b G sp ⟨0, fE.wrong⟩ = (⟨m, b, G⟩, sp, 0, 0)) := by show _ = _; rw [HR.out, if_neg (by rw [he]; decide)]
        subst he
        have hBw : B ≠ w.heap.size := h.hne.symm
        have hgs2 := h.gs
        have hsp2 := h.sp
        have hres := h.res
        go_wp2_with fail
        refine bodyPost_ret (v := .tuple #[.agg #[.int .i64 m, .int .i64 b, .slice A gw.length cc], .slice A2 sp.length c2, .int .i64 0, .int .i64 0]) (by simp [results, Tryz.results21, go_sem, z0, z1, z2]) rfl ?_
        rw [HR2.out]
        refine ⟨_, _, gw, rfl, HG.out, ?_, ?_, ?_⟩
        · exact GsAt.far hgs2 hres (by decide) (by decide) (grown_put3 _ _ _ _ _)
        · exact World.ownsRow.kept hsp2 (grown_put3 _ _ _ _ _) (.inr (own_blk_ne hsp2 hres (by decide)))
        · exact below_put3 hk (Nat.le_refl _) _ _ _
      · have HR2 : Hid (rdEnd l.length m b G sp ⟨0, fE.wrong⟩ = (Ct.zero, [], (l.length : Int), er)) := by show _ = _; rw [HR.out, if_pos he]
        have he0 : (er != 0) = true := by simpa using he
        clear he
        go_wp2_with fail
        refine bodyPost_ret (v := .tuple #[.agg #[.int .i64 0, .int .i64 0, .slice none 0 0], .slice none 0 0, .int .i64 l.length, .int .i64 er]) (by simp [results, Tryz.results21, go_sem, z0, z1, z2]) rfl ?_
        rw [HR2.out]
        refine rp_none _ _ ?_
        first | exact below_put3 hk (Nat.le_refl _) _ _ _ | exact (below_put3 hk (Nat.le_refl _) _ _ _).drew
theorem rRead_short {l : List UInt8} (h : ¬ 65536 < l.length) : rRead l = rdEnd l.length (headR l ⟨readAt 3 [58, 59] l 0, -1⟩).1 (headR l ⟨readAt 3 [58, 59] l 0, -1⟩).2.1
    (gatesR l (l.length + 1) (headR l ⟨readAt 3 [58, 59] l 0, -1⟩).2.2).1 (gatesR l (l.length + 1) (headR l ⟨readAt 3 [58, 59] l 0, -1⟩).2.2).2.1 ⟨0, (gatesR l (l.length + 1) (headR l ⟨readAt 3 [58, 59] l 0, -1⟩).2.2).2.2.wrong⟩ := by
  unfold rRead
  rw [if_neg h]
  rfl
set_option maxRecDepth 100000 in
set_option maxHeartbeats 1000000 in
theorem refParse_calls (l : List UInt8) (hl : l.length ≤ 1000000) (w : World) : Calls Tryz.prog 21 #[.string (bs l)] w (RpPost (sRead l) w) := by
  have hsz : (bs l).size = l.length := bs_size l
  rw [← rRead_eq]
  by_cases hlong : 65536 < l.length
  · have Hs : Hid (rRead l = (Ct.zero, [], 0, 11)) := by show _ = _; unfold rRead; rw [if_pos hlong]
    rw [Hs.out]
    go_enter Tryz.func21, Tryz.ntmps21
    go_wp2_with fail
    exact bodyPost_ret (v := .tuple #[.agg #[.int .i64 0, .int .i64 0, .slice none 0 0], .slice none 0 0, .int .i64 0, .int .i64 11]) (by simp [results, Tryz.results21, go_sem]) rfl (rp_none _ _ (below1 _ _))
  · rw [rRead_short hlong]
    exact refParse_walk l (by omega) _ _ _ _ _ _ _ rfl rfl rfl w
end Go.Proofs.YtmlloonbommkhaaGreatDoor
end
