import Derived.Test.YtonnegkpjmhomaaGreatDoorDSmall17
set_option linter.all false
section
set_option linter.all false
namespace Go.Proofs.YtonnegkpjmhomaaGreatDoor
open Go.RowKit
theorem cutR_len (i : Nat) (L : List UInt8) : (cutR 3 [58, 59] i L).2.1.length ≤ L.length := by
  cases L with
  | nil => simp [cutR]
  | cons c L =>
    have h1 := takeWhile_le isL (c :: L)
    have h2 := takeWhile_le isD (c :: L)
    rw [cutR_cons]
    repeat' split
    all_goals simp only [List.length_take, List.length_cons, List.length_nil] at *
    all_goals omega
def OkR (l : List UInt8) (r : Rr) : Prop := r.at_ + r.text.length ≤ l.length
theorem okR_at (l : List UInt8) (i : Nat) (hi : i ≤ l.length) : OkR l (readAt 3 [58, 59] l i) := by
  have hle := lay_le false (l.drop i)
  rw [List.length_drop] at hle
  unfold OkR readAt
  split
  · simp; omega
  · have := cutR_len (i + lay false (l.drop i)) (l.drop (i + lay false (l.drop i)))
    rw [List.length_drop] at this
    dsimp only
    omega
abbrev fmC (l : List UInt8) (f : Fm) : Array Value := #[.string (bs l), .int .i64 3, .string (bs [58, 59]), .int .i64 f.r.at_, .int .i64 f.r.at_, .int .i64 f.r.kind, .string (bs f.r.text), .int .i64 f.r.wrong, .bool f.r.none, .int .i64 f.wrong]
abbrev FmAt (w : World) (F : Nat) (l : List UInt8) (f : Fm) : Prop := Blk w F 156 (fmC l f)
theorem Blk.cells10 {w : World} {g : Nat} {t : TypeId} {a b c d e f h i j k : Value} (H : Blk w g t #[a, b, c, d, e, f, h, i, j, k]) : w.cell? ⟨g, 0, none⟩ = some a ∧ w.cell? ⟨g, 1, none⟩ = some b ∧ w.cell? ⟨g, 2, none⟩ = some c ∧ w.cell? ⟨g, 3, none⟩ = some d ∧ w.cell? ⟨g, 4, none⟩ = some e ∧ w.cell? ⟨g, 5, none⟩ = some f ∧ w.cell? ⟨g, 6, none⟩ = some h ∧ w.cell? ⟨g, 7, none⟩ = some i ∧ w.cell? ⟨g, 8, none⟩ = some j ∧ w.cell? ⟨g, 9, none⟩ = some k ∧ ∀ i, w.frozen? ⟨g, i, none⟩ = false :=
  ⟨H.cell 0, H.cell 1, H.cell 2, H.cell 3, H.cell 4, H.cell 5, H.cell 6, H.cell 7, H.cell 8, H.cell 9, H.frozen⟩
theorem toList_ne (t : List UInt8) : (bs t).toList = t := by rw [ByteArray.toList_eq, bs_list]
theorem grown_out {w x y : World} {F b : Nat} (h : w.grownBy x (some F)) (hg : x.grownBy y (some b)) (hb : w.heap.size ≤ b) : w.grownBy y (some F) :=
  ⟨hg.os.trans h.os, hg.tape.trans h.tape, hg.output.trans h.output, Nat.le_trans h.size hg.size, fun j hj hR => (hg.block j (Nat.lt_of_lt_of_le hj h.size) (fun e => by injection e with e; omega)).trans (h.block j hj hR)⟩
theorem str_at {w : World} {n0 : Nat} {A : Option Addr} {c : Nat} {ws : List (List UInt8)} (h : w.ownsRow n0 9 1 (.slice A ws.length c) ws.length (strC ws)) (j : Nat) (x : List UInt8) (hj : ws[j]? = some x) : ∃ g, A = some ⟨g, 0, none⟩ ∧ w.cell? ⟨g, j, none⟩ = some (.string (bs x)) := by
  have hjl : j < ws.length := by
    rcases Nat.lt_or_ge j ws.length with h | h
    · exact h
    · rw [List.getElem?_eq_none h] at hj; cases hj
  rcases h.2 with ⟨_, h0⟩ | ⟨g, c', cur, hA, _, hg, hnc, hcm, hcs, htk⟩
  · have : ws = [] := by simpa [strC] using h0
    subst this; cases hj
  · injection hA with hA
    refine ⟨g, hA, ?_⟩
    have e2 : (cur.toList.take (ws.length * 1))[j]? = (strC ws)[j]? := by rw [htk]
    rw [List.getElem?_take, if_pos (by omega), strC, List.getElem?_map, hj] at e2
    exact (cell_of_row w g _ cur _ (0, 0) hg).trans (by simpa using e2)
theorem grown_drewN {w x : World} {F : Nat} (h : w.grownBy x (some F)) (n : Nat) : w.grownBy (x.drewN n) (some F) := ⟨h.os, h.tape, h.output, h.size, h.block⟩
theorem Blk.put10 {w : World} {g : Nat} {t : TypeId} {a b c d e f h i j k a' b' c' d' e' f' h' i' j' : Value} (H : Blk w g t #[a, b, c, d, e, f, h, i, j, k]) :
    Blk (((((((((w.setCell ⟨g, 0, none⟩ a').setCell ⟨g, 1, none⟩ b').setCell ⟨g, 2, none⟩ c').setCell ⟨g, 3, none⟩ d').setCell ⟨g, 4, none⟩ e').setCell ⟨g, 5, none⟩ f').setCell ⟨g, 6, none⟩ h').setCell ⟨g, 7, none⟩ i').setCell ⟨g, 8, none⟩ j') g t #[a', b', c', d', e', f', h', i', j', k] := by
  have h0 : Blk (w.setCell ⟨g, 0, none⟩ a') g t #[a', b, c, d, e, f, h, i, j, k] := H.set_ 0 a'
  have h1 : Blk ((w.setCell ⟨g, 0, none⟩ a').setCell ⟨g, 1, none⟩ b') g t #[a', b', c, d, e, f, h, i, j, k] := h0.set_ 1 b'
  have h2 : Blk (((w.setCell ⟨g, 0, none⟩ a').setCell ⟨g, 1, none⟩ b').setCell ⟨g, 2, none⟩ c') g t #[a', b', c', d, e, f, h, i, j, k] := h1.set_ 2 c'
  have h3 : Blk ((((w.setCell ⟨g, 0, none⟩ a').setCell ⟨g, 1, none⟩ b').setCell ⟨g, 2, none⟩ c').setCell ⟨g, 3, none⟩ d') g t #[a', b', c', d', e, f, h, i, j, k] := h2.set_ 3 d'
  have h4 : Blk (((((w.setCell ⟨g, 0, none⟩ a').setCell ⟨g, 1, none⟩ b').setCell ⟨g, 2, none⟩ c').setCell ⟨g, 3, none⟩ d').setCell ⟨g, 4, none⟩ e') g t #[a', b', c', d', e', f, h, i, j, k] := h3.set_ 4 e'
  have h5 : Blk ((((((w.setCell ⟨g, 0, none⟩ a').setCell ⟨g, 1, none⟩ b').setCell ⟨g, 2, none⟩ c').setCell ⟨g, 3, none⟩ d').setCell ⟨g, 4, none⟩ e').setCell ⟨g, 5, none⟩ f') g t #[a', b', c', d', e', f', h, i, j, k] := h4.set_ 5 f'
  have h6 : Blk (((((((w.setCell ⟨g, 0, none⟩ a').setCell ⟨g, 1, none⟩ b').setCell ⟨g, 2, none⟩ c').setCell ⟨g, 3, none⟩ d').setCell ⟨g, 4, none⟩ e').setCell ⟨g, 5, none⟩ f').setCell ⟨g, 6, none⟩ h') g t #[a', b', c', d', e', f', h', i, j, k] := h5.set_ 6 h'
  have h7 : Blk ((((((((w.setCell ⟨g, 0, none⟩ a').setCell ⟨g, 1, none⟩ b').setCell ⟨g, 2, none⟩ c').setCell ⟨g, 3, none⟩ d').setCell ⟨g, 4, none⟩ e').setCell ⟨g, 5, none⟩ f').setCell ⟨g, 6, none⟩ h').setCell ⟨g, 7, none⟩ i') g t #[a', b', c', d', e', f', h', i', j, k] := h6.set_ 7 i'
  have h8 : Blk (((((((((w.setCell ⟨g, 0, none⟩ a').setCell ⟨g, 1, none⟩ b').setCell ⟨g, 2, none⟩ c').setCell ⟨g, 3, none⟩ d').setCell ⟨g, 4, none⟩ e').setCell ⟨g, 5, none⟩ f').setCell ⟨g, 6, none⟩ h').setCell ⟨g, 7, none⟩ i').setCell ⟨g, 8, none⟩ j') g t #[a', b', c', d', e', f', h', i', j', k] := h7.set_ 8 j'
  exact h8
theorem grown_then {w x y : World} {F : Nat} (h : w.grownBy x (some F)) (hb : Below x.heap.size x y) : w.grownBy y (some F) :=
  ⟨hb.os.trans h.os, hb.tape.trans h.tape, hb.output.trans h.output, Nat.le_trans h.size hb.size, fun j hj hR => (hb.block j (Nat.lt_of_lt_of_le hj h.size)).trans (h.block j hj hR)⟩
theorem grown_nine {w x : World} {F : Nat} (hg : w.grownBy x (some F)) (a' b' c' d' e' f' h' i' j' : Value) : w.grownBy (((((((((x.setCell ⟨F, 0, none⟩ a').setCell ⟨F, 1, none⟩ b').setCell ⟨F, 2, none⟩ c').setCell ⟨F, 3, none⟩ d').setCell ⟨F, 4, none⟩ e').setCell ⟨F, 5, none⟩ f').setCell ⟨F, 6, none⟩ h').setCell ⟨F, 7, none⟩ i').setCell ⟨F, 8, none⟩ j') (some F) := by
  repeat (with_reducible refine grown_set ?_ _ _)
  exact hg
def anyW (ws : List (List UInt8)) (r : Rr) : Bool := ws.any (fun w => w == r.text && decide (r.wrong < 0))
theorem anyW_snoc (ws : List (List UInt8)) (x : List UInt8) (r : Rr) : anyW (ws ++ [x]) r = (anyW ws r || (x == r.text && decide (r.wrong < 0))) := by simp [anyW]
def kindB (k : Nat) (r : Rr) : Bool := !r.none && r.kind == k && (decide (k ≤ 2) || !r.text.isEmpty)
theorem takesB_eq (k : Nat) (ws : List (List UInt8)) (r : Rr) : takesB k ws r = (kindB k r && (ws.isEmpty || anyW ws r)) := rfl
theorem takes_v0 {kb b a : Bool} {ws : List (List UInt8)} (HB : Hid (b = (kb && (ws.isEmpty || a)))) (H : Hid ((kb && decide (0 < ws.length)) = false)) : Hid (b = kb) := by
  show _ = _
  rw [HB.out]
  have := H.out
  cases kb
  · rfl
  · have hz := of_decide_eq_false this
    have : ws = [] := List.length_eq_zero_iff.1 (by omega)
    rw [this]; rfl
theorem takes_v1 {kb b a : Bool} {ws : List (List UInt8)} (HB : Hid (b = (kb && (ws.isEmpty || a)))) (H : Hid ((kb && decide (0 < ws.length)) = true)) : Hid (b = a) := by
  show _ = _
  rw [HB.out]
  have h := H.out
  rw [Bool.and_eq_true] at h
  obtain ⟨h1, h2⟩ := h
  have hz := of_decide_eq_true h2
  rw [h1]
  cases ws with
  | nil => simp at hz
  | cons x r => rfl
set_option maxRecDepth 100000 in
set_option maxHeartbeats 8000000 in
theorem takes_calls (F : Nat) (l : List UInt8) (hl : l.length ≤ 1000000) (f : Fm) (hok : OkR l f.r) (k : Nat) (ws : List (List UInt8)) (hws : ws.length ≤ 1000) (n0 : Nat) (v : Value) (w : World) (h : FmAt w F l f) (hrow : w.ownsRow n0 9 1 v ws.length (strC ws)) (hk : k ≤ 1000) :
    Calls Tryz.prog 143 #[.pointer (some ⟨F, 0, none⟩), .int .i64 k, v] w fun e w' => e = .returned (.agg #[.int .i64 f.r.at_, .int .i64 f.r.kind, .string (bs f.r.text)]) ∧ FmAt w' F l (takesR 3 [58, 59] l k ws f) ∧ w.grownBy w' (some F) := by
  have HN := Lib.hid (fun W => refNext_calls l hl f.r hok W)
  obtain ⟨r2, Hr2⟩ : ∃ x, Hid (nextR 3 [58, 59] l f.r = x) := ⟨_, rfl⟩
  have e2 : readAt 3 [58, 59] l (f.r.at_ + f.r.text.length) = r2 := Hr2.out
  rw [e2] at HN
  unfold rdC at HN
  clear e2
  have hFl := Blk.lt (t := 156) h
  have hh1 := Blk.alloc h (.cells #[.int .i64 0, .int .i64 0, .string ⟨#[]⟩] 104)
  have hx := Blk.alloc (Blk.alloc h (.cells #[.int .i64 0, .int .i64 0, .string ⟨#[]⟩] 104)) (.cells #[.int .i64 f.r.at_, .int .i64 f.r.kind, .string (bs f.r.text)] 104)
  have b2 := (Blk.new w 104 #[.int .i64 0, .int .i64 0, .string ⟨#[]⟩]).alloc (.cells #[.int .i64 f.r.at_, .int .i64 f.r.kind, .string (bs f.r.text)] 104)
  have b3 := Blk.at_ (w.alloc (.cells #[.int .i64 0, .int .i64 0, .string ⟨#[]⟩] 104)) 104 #[.int .i64 f.r.at_, .int .i64 f.r.kind, .string (bs f.r.text)] (n := w.heap.size + 1) (by simp)
  have hrowa := own_below hrow (below2 w (.cells #[.int .i64 0, .int .i64 0, .string ⟨#[]⟩] 104) (.cells #[.int .i64 f.r.at_, .int .i64 f.r.kind, .string (bs f.r.text)] 104)) (Nat.le_refl _)
  have hG : w.grownBy ((w.alloc (.cells #[.int .i64 0, .int .i64 0, .string ⟨#[]⟩] 104)).alloc (.cells #[.int .i64 f.r.at_, .int .i64 f.r.kind, .string (bs f.r.text)] 104)) (some F) := grown_below (below2 _ _ _) _
  obtain ⟨A, c, rfl⟩ := own_form hrow
  have Hst := Lib.hid (fun j x hj => str_at hrowa j x hj)
  have HG := Lib.hid hG
  obtain ⟨x0, x1, x2, x3, x4, x5, x6, x7, x8, x9, xf⟩ := Blk.cells10 hh1
  clear hrow hrowa hG h
  obtain ⟨f', Hf⟩ : ∃ x, Hid (takesR 3 [58, 59] l k ws f = x) := ⟨_, rfl⟩
  rw [Hf.out]
  go_enter Tryz.func143, Tryz.ntmps143
  go_upto_region 2 with fail
  clear x0 x1 x2 x3 x4 x5 x6 x7 x8 x9 xf hh1
  have hFs : F ≠ w.heap.size := by omega
  have hFs1 : F ≠ w.heap.size + 1 := by omega
  generalize (w.alloc (.cells #[.int .i64 0, .int .i64 0, .string ⟨#[]⟩] 104)).alloc (.cells #[.int .i64 f.r.at_, .int .i64 f.r.kind, .string (bs f.r.text)] 104) = wa at *
  obtain ⟨x0, x1, x2, x3, x4, x5, x6, x7, x8, x9, xf⟩ := Blk.cells10 hx
  have z0 := b2.cell 0
  have z1 := b2.cell 1
  have z2 := b2.cell 2
  have zf := b2.frozen
  have t0 := b3.cell 0
  have t1 := b3.cell 1
  have t2 := b3.cell 2
  have tf := b3.frozen
  simp at z0 z1 z2 t0 t1 t2
  by_cases hw : 0 ≤ f.wrong
  · have Hr : Hid (f' = f) := by show _ = _; rw [← Hf.out]; unfold takesR; rw [if_pos hw]
    go_wp2_with fail
    refine bodyPost_ret (v := .agg #[.int .i64 f.r.at_, .int .i64 f.r.kind, .string (bs f.r.text)]) (by simp [results, Tryz.results143, go_sem, z0, z1, z2]) rfl ⟨rfl, by rw [Hr.out]; exact ((hx.far hFs _).far hFs _).far hFs _, ?_⟩
    exact grown_out HG.out (grown_put3 _ _ _ _ _) (Nat.le_refl _)
  · have Hr : Hid (f' = if takesB k ws f.r = false then ⟨f.r, f.r.at_⟩ else if 0 ≤ f.r.wrong then ⟨f.r, f.r.wrong⟩ else ⟨nextR 3 [58, 59] l f.r, f.wrong⟩) := by show _ = _; rw [← Hf.out]; unfold takesR; rw [if_neg hw]
    go_upto_region 4 with fail
    go_cut [8] (fun s8 wx => s8 = .bool (kindB k f.r) ∧ wx = wa)
    case first =>
      cases hn : f.r.none
      · rw [hn] at x8
        by_cases hk1 : f.r.kind = k
        · have hk2 : ((f.r.kind : Int) == (k : Int)) = true := by rw [hk1]; exact beq_self_eq_true _
          by_cases h2 : k ≤ 2
          · have Hb : Hid (kindB k f.r = true) := by show _ = _; unfold kindB; rw [hn, hk1]; simp [h2]
            have h3 : decide ((k : Int) ≤ 2) = true := decide_eq_true (by omega)
            clear hk1
            go_wp2_with fail
            go_meet
            exact ⟨by rw [Hb.out], rfl⟩
          · have h3 : decide ((k : Int) ≤ 2) = false := decide_eq_false (by omega)
            cases ht : f.r.text with
            | nil =>
              have Hb : Hid (kindB k f.r = false) := by show _ = _; unfold kindB; rw [hn, hk1, ht]; simp [h2]
              have e1 : (bs ([] : List UInt8)).toList = [] := toList_ne []
              rw [ht] at t2
              clear hk1
              go_wp2_with fail
              go_meet
              exact ⟨by rw [Hb.out], rfl⟩
            | cons b r =>
              have Hb : Hid (kindB k f.r = true) := by show _ = _; unfold kindB; rw [hn, hk1, ht]; simp
              have e1 : (bs (b :: r)).toList = b :: r := toList_ne _
              rw [ht] at t2
              clear hk1
              go_wp2_with fail
              go_meet
              exact ⟨by rw [Hb.out], rfl⟩
        · have hk2 : ((f.r.kind : Int) == (k : Int)) = false := by rw [beq_eq_false_iff_ne]; omega
          have Hb : Hid (kindB k f.r = false) := by show _ = _; unfold kindB; rw [show (f.r.kind == k) = false by simpa using hk1]; simp
          clear hk1
          go_wp2_with fail
          go_meet
          exact ⟨by rw [Hb.out], rfl⟩
      · rw [hn] at x8
        have Hb : Hid (kindB k f.r = false) := by show _ = _; unfold kindB; rw [hn]; rfl
        go_wp2_with fail
        go_meet
        exact ⟨by rw [Hb.out], rfl⟩
    case rest =>
      obtain ⟨rfl, hw1⟩ := hcut
      have hw1 := hw1.symm
      subst hw1
      have HB : Hid (takesB k ws f.r = (kindB k f.r && (ws.isEmpty || anyW ws f.r))) := takesB_eq k ws f.r
      generalize kindB k f.r = kb at *
      go_upto_region 5 with fail
      go_cut [8, 47] (fun s8 s47 wx => s8 = .bool kb ∧ s47 = .bool (kb && decide (0 < ws.length)) ∧ wx = wa)
      case first =>
        cases kb
        · go_wp2_with fail
          go_meet
          exact ⟨rfl, rfl, rfl⟩
        · go_wp2_with fail
          go_meet
          exact ⟨rfl, rfl, rfl⟩
      case rest =>
        obtain ⟨rfl, rfl, hw1⟩ := hcut
        have hw1 := hw1.symm
        subst hw1
        obtain ⟨b47, H47⟩ : ∃ b, Hid ((kb && decide (0 < ws.length)) = b) := ⟨_, rfl⟩
        rw [H47.out]
        go_upto_if 47 with fail
        go_cut [8] (fun s8 wx => s8 = .bool (takesB k ws f.r) ∧ ∃ m, wx = wa.drewN m)
        case first =>
          cases b47
          · have Hv : Hid (takesB k ws f.r = kb) := takes_v0 HB H47
            go_wp2_with fail
            go_meet
            exact ⟨by rw [Hv.out], 0, rfl⟩
          · have Hv : Hid (takesB k ws f.r = anyW ws f.r) := takes_v1 HB H47
            go_wp2_with fail
            go_loopg [8, 9] ws.length (fun gk s8 s9 wr => ∃ j m : Nat, j + gk = ws.length ∧ s9 = .int .i64 j ∧ s8 = .bool (anyW (ws.take j) f.r) ∧ wr = wa.drewN m)
            case atStart => exact ⟨0, 0, by omega, rfl, rfl, rfl⟩
            case round =>
              obtain ⟨j, m, hj, rfl, rfl, rfl⟩ := hrel
              cases gk with
              | zero =>
                obtain rfl : j = ws.length := by omega
                rw [List.take_length]
                go_wp2_with fail
                go_meet
                exact ⟨by rw [Hv.out], m, rfl⟩
              | succ gk =>
                have hlt : j < ws.length := by omega
                obtain ⟨x, hxw⟩ : ∃ x, ws[j]? = some x := ⟨ws[j], List.getElem?_eq_getElem hlt⟩
                have Hnx : Hid (anyW (ws.take (j + 1)) f.r = (anyW (ws.take j) f.r || (x == f.r.text && decide (f.r.wrong < 0)))) := by show _ = _; rw [List.take_add_one, hxw]; exact anyW_snoc _ _ _
                obtain ⟨g, hA, hc⟩ := Hst.out j x hxw
                subst hA
                clear hxw
                have hn1 : (j : Int) < (ws.length : Int) := by omega
                have hn0 : (0 : Int) ≤ (j : Int) := by omega
                generalize anyW (ws.take j) f.r = ab at *
                cases ab
                · cases hxt : x == f.r.text
                  · have hb1 : ((bs x).toList == (bs f.r.text).toList) = false := (bs_beq _ _).trans hxt
                    have Hy : Hid (anyW (ws.take (j + 1)) f.r = false) := by show _ = _; rw [Hnx.out, hxt]; rfl
                    clear hxt
                    go_upto_region 10 with fail
                    go_quiet (fail)
                    go_wp2_with fail
                    go_roundg gk
                    case measure => omega
                    case rel => exact ⟨j + 1, _, by omega, by go_num, by rw [Hy.out], rfl⟩
                  · have hb1 : ((bs x).toList == (bs f.r.text).toList) = true := (bs_beq _ _).trans hxt
                    cases hwr : decide (f.r.wrong < 0)
                    · have Hy : Hid (anyW (ws.take (j + 1)) f.r = false) := by show _ = _; rw [Hnx.out, hxt, hwr]; rfl
                      clear hxt
                      go_upto_region 10 with fail
                      go_quiet (fail)
                      go_wp2_with fail
                      go_roundg gk
                      case measure => omega
                      case rel => exact ⟨j + 1, _, by omega, by go_num, by rw [Hy.out], rfl⟩
                    · have Hy : Hid (anyW (ws.take (j + 1)) f.r = true) := by show _ = _; rw [Hnx.out, hxt, hwr]; rfl
                      clear hxt
                      go_upto_region 10 with fail
                      go_quiet (fail)
                      go_wp2_with fail
                      go_roundg gk
                      case measure => omega
                      case rel => exact ⟨j + 1, _, by omega, by go_num, by rw [Hy.out], rfl⟩
                · have Hy : Hid (anyW (ws.take (j + 1)) f.r = true) := by show _ = _; rw [Hnx.out]; rfl
                  go_upto_region 10 with fail
                  go_quiet (fail)
                  go_wp2_with fail
                  go_roundg gk
                  case measure => omega
                  case rel => exact ⟨j + 1, _, by omega, by go_num, by rw [Hy.out], rfl⟩
        case rest =>
          obtain ⟨rfl, m, hw1⟩ := hcut
          subst hw1
          clear HB
          generalize takesB k ws f.r = tb at *
          have hx := hx.drewN m
          have HG2 := Lib.hid (grown_drewN HG.out m)
          have hzs : w.heap.size ≤ (wa.drewN m).heap.size := HG2.out.size
          cases tb
          · have Hr : Hid (f' = ⟨f.r, f.r.at_⟩) := by show _ = _; rw [Hr.out]; rfl
            go_wp2_with fail
            refine bodyPost_ret (v := .agg #[.int .i64 f.r.at_, .int .i64 f.r.kind, .string (bs f.r.text)]) (by simp [results, Tryz.results143, go_sem, z0, z1, z2]) rfl ⟨rfl, by rw [Hr.out]; exact (((hx.set_ 9 _).far hFs _).far hFs _).far hFs _, ?_⟩
            exact grown_out (grown_set HG2.out 9 _) (grown_put3 _ _ _ _ _) (Nat.le_refl _)
          · by_cases hwr : 0 ≤ f.r.wrong
            · have Hr : Hid (f' = ⟨f.r, f.r.wrong⟩) := by show _ = _; rw [Hr.out, if_neg (by simp), if_pos hwr]
              go_wp2_with fail
              refine bodyPost_ret (v := .agg #[.int .i64 f.r.at_, .int .i64 f.r.kind, .string (bs f.r.text)]) (by simp [results, Tryz.results143, go_sem, z0, z1, z2]) rfl ⟨rfl, by rw [Hr.out]; exact (((hx.set_ 9 _).far hFs _).far hFs _).far hFs _, ?_⟩
              exact grown_out (grown_set HG2.out 9 _) (grown_put3 _ _ _ _ _) (Nat.le_refl _)
            · have Hr : Hid (f' = ⟨r2, f.wrong⟩) := by show _ = _; rw [Hr.out, if_neg (by simp), if_neg hwr, Hr2.out]
              go_upto_region 11 with fail
              go_wp2_with fail
              refine (HN.out _).mono ?_
              rintro e w9 ⟨rfl, hb9⟩
              have hx9 := hx.below hb9 hx.lt
              have c2 := (b2.drewN m).below hb9 (b2.drewN m).lt
              have c3 := (b3.drewN m).below hb9 (b3.drewN m).lt
              have HG9 := Lib.hid (grown_then HG2.out hb9)
              clear HG2 hb9 hx b2 b3 x0 x1 x2 x3 x4 x5 x6 x7 x8 x9 xf z0 z1 z2 zf t0 t1 t2 tf
              obtain ⟨x0, x1, x2, x3, x4, x5, x6, x7, x8, x9, xf⟩ := Blk.cells10 hx9
              have z0 := c2.cell 0
              have z1 := c2.cell 1
              have z2 := c2.cell 2
              have zf := c2.frozen
              have t0 := c3.cell 0
              have t1 := c3.cell 1
              have t2 := c3.cell 2
              have tf := c3.frozen
              simp at z0 z1 z2 t0 t1 t2
              go_wp2_with fail
              refine bodyPost_ret (v := .agg #[.int .i64 f.r.at_, .int .i64 f.r.kind, .string (bs f.r.text)]) (by simp [results, Tryz.results143, go_sem, z0, z1, z2]) rfl ⟨rfl, by rw [Hr.out]; exact ((hx9.put10.far hFs _).far hFs _).far hFs _, ?_⟩
              exact grown_out (grown_nine HG9.out _ _ _ _ _ _ _ _ _) (grown_put3 _ _ _ _ _) (Nat.le_refl _)
end Go.Proofs.YtonnegkpjmhomaaGreatDoor
end
section
set_option linter.all false
namespace Go.Proofs.YtonnegkpjmhomaaGreatDoor
open Go.RowKit
theorem sub48 (c : UInt8) : ((c - 48).toNat : Int) = ((c.toNat : Int) - 48) % 256 := by
  have h : (c - 48).toNat = (256 - 48 + c.toNat) % 256 := UInt8.toNat_sub c 48
  omega
theorem numV_snoc (l : List UInt8) (c : UInt8) : numV (l ++ [c]) = 10 * numV l + (c - 48).toNat := by simp [numV, List.foldl_append]
theorem numV_le (l : List UInt8) : numV l + 29 ≤ 29 * 10 ^ l.length := by
  have key : ∀ (l : List UInt8) (n k : Nat), n + 29 ≤ 29 * 10 ^ k → l.foldl (fun n c => 10 * n + (c - 48).toNat) n + 29 ≤ 29 * 10 ^ (k + l.length) := by
    intro l
    induction l with
    | nil => intro n k h; exact h
    | cons c l ih =>
      intro n k h
      have h2 : (c - 48).toNat < 256 := (c - 48).toNat_lt
      have h3 : 10 ^ (k + 1) = 10 * 10 ^ k := by rw [Nat.pow_succ]; omega
      have := ih (10 * n + (c - 48).toNat) (k + 1) (by rw [h3]; omega)
      rw [List.foldl_cons, List.length_cons, show k + (l.length + 1) = k + 1 + l.length by omega]
      exact this
  simpa [numV] using key l 0 0 (by omega)
theorem numV_fits (l : List UInt8) (h : l.length ≤ 14) : numV l ≤ 2900000000000000 := by
  have h1 := numV_le l
  have h2 : 10 ^ l.length ≤ 10 ^ 14 := Nat.pow_le_pow_right (by decide) h
  have h3 : (10 : Nat) ^ 14 = 100000000000000 := by decide
  omega
set_option maxRecDepth 100000 in
set_option maxHeartbeats 4000000 in
theorem refNumber_calls (x y : Int) (t : List UInt8) (ht : t.length ≤ 1000000) (w : World) :
    Calls Tryz.prog 144 #[.agg #[.int .i64 x, .int .i64 y, .string (bs t)]] w fun e w' => ∃ n : Int, e = .returned (.int .i64 n) ∧ (t.length ≤ 15 → n = numV t) ∧ Below w.heap.size w w' := by
  have hsz : (bs t).size = t.length := bs_size t
  by_cases h15 : t.length ≤ 15
  · go_enter Tryz.func144, Tryz.ntmps144
    have b1 := Blk.new w 104 #[.int .i64 x, .int .i64 y, .string (bs t)]
    have t2 : (w.alloc (.cells #[.int .i64 x, .int .i64 y, .string (bs t)] 104)).cell? ⟨w.heap.size, 2, none⟩ = some (.string (bs t)) := b1.cell 2
    have tf := b1.frozen
    have hW := below1 w (.cells #[.int .i64 x, .int .i64 y, .string (bs t)] 104)
    go_wp2_with fail
    generalize w.alloc (.cells #[.int .i64 x, .int .i64 y, .string (bs t)] 104) = wa at *
    go_loopg [3, 4] t.length (fun gk s3 s4 wr => ∃ j : Nat, j + gk = t.length ∧ s4 = .int .i64 j ∧ s3 = .int .i64 (numV (t.take j) : Nat) ∧ wr = wa)
    case atStart => exact ⟨0, by omega, rfl, rfl, rfl⟩
    case round =>
      obtain ⟨j, hj, rfl, rfl, rfl⟩ := hrel
      cases gk with
      | zero =>
        obtain rfl : j = t.length := by omega
        rw [List.take_length]
        go_wp2_with fail
        go_ret
        exact ⟨_, rfl, fun _ => rfl, hW⟩
      | succ gk =>
        have hlt : j < t.length := by omega
        obtain ⟨c, hc, hg⟩ := drop_cons_get hlt
        have Hn : Hid (numV (t.take (j + 1)) = 10 * numV (t.take j) + (c - 48).toNat) := by
          show _ = _
          have h2 : t.take (j + 1) = t.take j ++ [c] := by
            rw [List.take_add_one]
            have h3 := congrArg List.head? hc
            rw [List.head?_drop] at h3
            rw [h3]; rfl
          rw [h2, numV_snoc]
        have hf := numV_fits (t.take j) (by rw [List.length_take]; omega)
        have hn1 : (j : Int) < (t.length : Int) := by omega
        have hn0 : (0 : Int) ≤ (j : Int) := by omega
        have hc2 : (c - 48).toNat < 256 := (c - 48).toNat_lt
        generalize numV (t.take j) = n at *
        clear hc
        go_wp2_with fail
        go_roundg gk
        case measure => omega
        case rel => exact ⟨j + 1, by omega, by go_num, by rw [Hn.out]; have hc3 := sub48 c; go_num, rfl⟩
  · go_enter Tryz.func144, Tryz.ntmps144
    have b1 := Blk.new w 104 #[.int .i64 x, .int .i64 y, .string (bs t)]
    have t2 : (w.alloc (.cells #[.int .i64 x, .int .i64 y, .string (bs t)] 104)).cell? ⟨w.heap.size, 2, none⟩ = some (.string (bs t)) := b1.cell 2
    have tf := b1.frozen
    have hW := below1 w (.cells #[.int .i64 x, .int .i64 y, .string (bs t)] 104)
    go_wp2_with fail
    generalize w.alloc (.cells #[.int .i64 x, .int .i64 y, .string (bs t)] 104) = wa at *
    go_loopg [3, 4] t.length (fun gk s3 s4 wr => ∃ (j : Nat) (n : Int), j + gk = t.length ∧ s4 = .int .i64 j ∧ s3 = .int .i64 n ∧ wr = wa)
    case atStart => exact ⟨0, 0, by omega, rfl, rfl, rfl⟩
    case round =>
      obtain ⟨j, n, hj, rfl, rfl, rfl⟩ := hrel
      cases gk with
      | zero =>
        obtain rfl : j = t.length := by omega
        go_wp2_with fail
        go_ret
        exact ⟨_, rfl, fun h => absurd h h15, hW⟩
      | succ gk =>
        have hlt : j < t.length := by omega
        obtain ⟨c, hc, hg⟩ := drop_cons_get hlt
        have hn1 : (j : Int) < (t.length : Int) := by omega
        have hn0 : (0 : Int) ≤ (j : Int) := by omega
        clear hc
        go_wp2_with fail
        go_roundg gk
        case measure => omega
        case rel => exact ⟨j + 1, _, by omega, by go_num, rfl, rfl⟩
set_option maxRecDepth 100000 in
set_option maxHeartbeats 4000000 in
theorem refIs_calls (F : Nat) (l : List UInt8) (f : Fm) (t : List UInt8) (w : World) (h : FmAt w F l f) :
    Calls Tryz.prog 145 #[.pointer (some ⟨F, 0, none⟩), .string (bs t)] w fun e w' => e = .returned (.bool (isR t f)) ∧ Below w.heap.size w w' := by
  obtain ⟨x0, x1, x2, x3, x4, x5, x6, x7, x8, x9, xf⟩ := Blk.cells10 h
  obtain ⟨b, Hb⟩ : ∃ x, Hid (isR t f = x) := ⟨_, rfl⟩
  rw [Hb.out]
  have Hp : Hid ((decide (f.wrong < 0) && !f.r.none && decide (f.r.wrong < 0) && f.r.kind == 1 && f.r.text == t) = b) := Hb.out
  clear Hb h
  cases h1 : decide (f.wrong < 0)
  · have Hv : Hid (b = false) := by show _ = _; rw [← Hp.out, h1]; rfl
    go_enter Tryz.func145, Tryz.ntmps145
    go_wp2_with fail
    go_ret
    exact ⟨by rw [Hv.out] <;> rfl, Below.refl _ _⟩
  · cases h2 : f.r.none
    · rw [h2] at x8
      cases h3 : decide (f.r.wrong < 0)
      · have Hv : Hid (b = false) := by show _ = _; rw [← Hp.out, h1, h2, h3]; rfl
        go_enter Tryz.func145, Tryz.ntmps145
        go_wp2_with fail
        go_ret
        exact ⟨by rw [Hv.out] <;> rfl, Below.refl _ _⟩
      · by_cases h4 : f.r.kind = 1
        · rw [h4] at x5
          cases h5 : f.r.text == t
          · have Hv : Hid (b = false) := by show _ = _; rw [← Hp.out, h1, h2, h3, h4, h5]; rfl
            have e5 : ((bs f.r.text).toList == (bs t).toList) = false := (bs_beq _ _).trans h5
            clear h4 h5
            go_enter Tryz.func145, Tryz.ntmps145
            go_wp2_with fail
            go_ret
            exact ⟨by rw [Hv.out] <;> rfl, Below.refl _ _⟩
          · have Hv : Hid (b = true) := by show _ = _; rw [← Hp.out, h1, h2, h3, h4, h5]; rfl
            have e5 : ((bs f.r.text).toList == (bs t).toList) = true := (bs_beq _ _).trans h5
            clear h4 h5
            go_enter Tryz.func145, Tryz.ntmps145
            go_wp2_with fail
            go_ret
            exact ⟨by rw [Hv.out] <;> rfl, Below.refl _ _⟩
        · have h4b : (f.r.kind == 1) = false := by simpa using h4
          have Hv : Hid (b = false) := by show _ = _; rw [← Hp.out, h1, h2, h3, h4b]; rfl
          have h4c : ((f.r.kind : Int) == 1) = false := by rw [beq_eq_false_iff_ne]; omega
          clear h4 h4b
          go_enter Tryz.func145, Tryz.ntmps145
          go_wp2_with fail
          go_ret
          exact ⟨by rw [Hv.out] <;> rfl, Below.refl _ _⟩
    · rw [h2] at x8
      have Hv : Hid (b = false) := by show _ = _; rw [← Hp.out, h1, h2]; rfl
      go_enter Tryz.func145, Tryz.ntmps145
      go_wp2_with fail
      go_ret
      exact ⟨by rw [Hv.out] <;> rfl, Below.refl _ _⟩
end Go.Proofs.YtonnegkpjmhomaaGreatDoor
end
section
set_option linter.all false
namespace Go.Proofs.YtonnegkpjmhomaaGreatDoor
open Go.RowKit
def OkT (l : List UInt8) (r : Rr) : Prop := OkR l r ∧ r.text.length ≤ 8
theorem cutR_short (i : Nat) (L : List UInt8) : (cutR 3 [58, 59] i L).2.1.length ≤ 8 := by
  cases L with
  | nil => simp [cutR]
  | cons c L =>
    rw [cutR_cons]
    repeat' split
    all_goals simp only [List.length_take, List.length_cons, List.length_nil]
    all_goals omega
theorem okT_at (l : List UInt8) (i : Nat) (hi : i ≤ l.length) : OkT l (readAt 3 [58, 59] l i) := by
  refine ⟨okR_at l i hi, ?_⟩
  unfold readAt
  split
  · simp
  · exact cutR_short _ _
theorem okT_tk {l : List UInt8} {f : Fm} (h : OkT l f.r) (k : Nat) (ws : List (List UInt8)) : OkT l (tk l k ws f).r := by
  show OkT l (takesR 3 [58, 59] l k ws f).r
  unfold takesR
  repeat' split
  · exact h
  · exact h
  · exact h
  · exact okT_at l _ h.1
abbrev tokV (r : Rr) : Value := .agg #[.int .i64 r.at_, .int .i64 r.kind, .string (bs r.text)]
theorem tk_calls (F : Nat) (l : List UInt8) (hl : l.length ≤ 1000000) (f : Fm) (hok : OkT l f.r) (k : Nat) (ki : Int) (hki : ki = k) (hk : k ≤ 1000) (w : World) (h : FmAt w F l f) :
    Calls Tryz.prog 143 #[.pointer (some ⟨F, 0, none⟩), .int .i64 ki, .slice none 0 0] w fun e w' => e = .returned (tokV f.r) ∧ FmAt w' F l (tk l k [] f) ∧ w.grownBy w' (some F) := by
  subst hki
  exact takes_calls F l hl f hok.1 k [] (by simp) 0 _ w h (World.ownsRow_nil _ _ _ _) hk
theorem num_calls (r : Rr) (hr : r.text.length ≤ 8) (w : World) :
    Calls Tryz.prog 144 #[tokV r] w fun e w' => e = .returned (.int .i64 (numR r.text)) ∧ Below w.heap.size w w' :=
  (refNumber_calls _ _ r.text (by omega) w).mono fun _ _ ⟨n, he, hn, hb⟩ => ⟨by rw [he, hn (by omega)], hb⟩
theorem headR_fst (l : List UInt8) (f : Fm) (a b c d : Fm) (ha : tk l 1 [[119, 105, 114, 101, 115]] f = a) (hb : tk l 2 [] a = b) (hc : tk l 1 [] b = c) (hd : tk l 2 [] c = d) :
    headR l f = (numR a.r.text, (if isR [98, 105, 116, 115] b then (numR c.r.text, d) else (0, b)).1, tk l 59 [] (if isR [98, 105, 116, 115] b then (numR c.r.text, d) else (0, b)).2) := by
  subst ha hb hc hd; rfl
set_option maxRecDepth 100000 in
set_option maxHeartbeats 4000000 in
theorem header_calls (F : Nat) (l : List UInt8) (hl : l.length ≤ 1000000) (f : Fm) (hok : OkT l f.r) (w : World) (h : FmAt w F l f) :
    Calls Tryz.prog 102 #[.pointer (some ⟨F, 0, none⟩)] w fun e w' => e = .returned (.tuple #[.int .i64 (headR l f).1, .int .i64 (headR l f).2.1]) ∧ FmAt w' F l (headR l f).2.2 ∧ w.grownBy w' (some F) := by
  obtain ⟨a, Ha⟩ : ∃ x, Hid (tk l 1 [[119, 105, 114, 101, 115]] f = x) := ⟨_, rfl⟩
  obtain ⟨b, Hb⟩ : ∃ x, Hid (tk l 2 [] a = x) := ⟨_, rfl⟩
  obtain ⟨c, Hc⟩ : ∃ x, Hid (tk l 1 [] b = x) := ⟨_, rfl⟩
  obtain ⟨d, Hd⟩ : ∃ x, Hid (tk l 2 [] c = x) := ⟨_, rfl⟩
  have oa : OkT l a.r := by rw [← Ha.out]; exact okT_tk hok _ _
  have ob : OkT l b.r := by rw [← Hb.out]; exact okT_tk oa _ _
  have oc : OkT l c.r := by rw [← Hc.out]; exact okT_tk ob _ _
  have od : OkT l d.r := by rw [← Hd.out]; exact okT_tk oc _ _
  have T1 := Lib.hid (fun n0 v W h hrow => takes_calls F l hl f hok.1 1 [[119, 105, 114, 101, 115]] (by simp) n0 v W h hrow (by decide))
  have T2 := Lib.hid (fun W h => tk_calls F l hl a oa 2 2 rfl (by decide) W h)
  have T3 := Lib.hid (fun W h => tk_calls F l hl b ob 1 1 rfl (by decide) W h)
  have T4 := Lib.hid (fun W h => tk_calls F l hl c oc 2 2 rfl (by decide) W h)
  have T5 := Lib.hid (fun (g : Fm) (og : OkT l g.r) W h => tk_calls F l hl g og 59 59 rfl (by decide) W h)
  have N1 := Lib.hid (fun W => num_calls a.r oa.2 W)
  have N2 := Lib.hid (fun W => num_calls c.r oc.2 W)
  have I1 := Lib.hid (fun W h => refIs_calls F l b [98, 105, 116, 115] W h)
  change Hid (∀ n0 v W h hrow, Calls _ _ _ _ fun e w' => e = _ ∧ FmAt w' F l (tk l 1 [[119, 105, 114, 101, 115]] f) ∧ _) at T1
  rw [Ha.out] at T1
  rw [Hb.out] at T2
  rw [Hc.out] at T3
  rw [Hd.out] at T4
  rw [headR_fst l f a b c d Ha.out Hb.out Hc.out Hd.out]
  unfold tokV at T2 T3 T4 T5 N1 N2
  have Oa := Lib.hid oa
  have Ob := Lib.hid ob
  have Od := Lib.hid od
  clear oa ob oc od Ha Hb Hc Hd hok
  have hF := h.lt
  have h1 := Blk.alloc h (.cells #[.string ⟨#[119, 105, 114, 101, 115]⟩] 9)
  have hr1 : (w.alloc (.cells #[.string ⟨#[119, 105, 114, 101, 115]⟩] 9)).ownsRow w.heap.size 9 1 (.slice (some ⟨w.heap.size, 0, none⟩) 1 1) 1 (strC [[119, 105, 114, 101, 115]]) := World.ownsRow_lit w #[.string ⟨#[119, 105, 114, 101, 115]⟩] 1 (Nat.le_refl _) (by decide) rfl
  have g1 : w.grownBy (w.alloc (.cells #[.string ⟨#[119, 105, 114, 101, 115]⟩] 9)) (some F) := grown_below (below1 _ _) _
  cases hb0 : isR [98, 105, 116, 115] b
  · rw [if_neg (by simp)]
    rw [hb0] at I1
    go_enter Tryz.func102, Tryz.ntmps102
    go_wp2_with fail
    refine (T1.out _ _ _ h1 hr1).mono ?_
    rintro e w1 ⟨rfl, h2, g2⟩
    have g2 := grown_trans g1 g2
    go_wp2_with fail
    refine (T2.out _ h2).mono ?_
    rintro e w3 ⟨rfl, h3, g3⟩
    have g3 := grown_trans g2 g3
    go_wp2_with fail
    refine (N1.out _).mono ?_
    rintro e w4 ⟨rfl, hb4⟩
    have h4 := h3.below hb4 h3.lt
    have g4 := grown_via g3 hb4
    go_wp2_with fail
    refine (I1.out _ h4).mono ?_
    rintro e w5 ⟨rfl, hb5⟩
    have h5 := h4.below hb5 h4.lt
    have g5 := grown_via g4 hb5
    go_wp2_with fail
    refine (T5.out b Ob.out _ h5).mono ?_
    rintro e w6 ⟨rfl, h6, g6⟩
    have g6 := grown_trans g5 g6
    go_wp2_with fail
    go_ret2
    exact ⟨rfl, h6, g6⟩
  · rw [if_pos rfl]
    rw [hb0] at I1
    go_enter Tryz.func102, Tryz.ntmps102
    go_wp2_with fail
    refine (T1.out _ _ _ h1 hr1).mono ?_
    rintro e w1 ⟨rfl, h2, g2⟩
    have g2 := grown_trans g1 g2
    go_wp2_with fail
    refine (T2.out _ h2).mono ?_
    rintro e w3 ⟨rfl, h3, g3⟩
    have g3 := grown_trans g2 g3
    go_wp2_with fail
    refine (N1.out _).mono ?_
    rintro e w4 ⟨rfl, hb4⟩
    have h4 := h3.below hb4 h3.lt
    have g4 := grown_via g3 hb4
    go_wp2_with fail
    refine (I1.out _ h4).mono ?_
    rintro e w5 ⟨rfl, hb5⟩
    have h5 := h4.below hb5 h4.lt
    have g5 := grown_via g4 hb5
    go_wp2_with fail
    refine (T3.out _ h5).mono ?_
    rintro e w6 ⟨rfl, h6, g6⟩
    have g6 := grown_trans g5 g6
    go_wp2_with fail
    refine (T4.out _ h6).mono ?_
    rintro e w7 ⟨rfl, h7, g7⟩
    have g7 := grown_trans g6 g7
    go_wp2_with fail
    refine (N2.out _).mono ?_
    rintro e w8 ⟨rfl, hb8⟩
    have h8 := h7.below hb8 h7.lt
    have g8 := grown_via g7 hb8
    go_wp2_with fail
    refine (T5.out d Od.out _ h8).mono ?_
    rintro e w9 ⟨rfl, h9, g9⟩
    have g9 := grown_trans g8 g9
    go_wp2_with fail
    go_ret2
    exact ⟨rfl, h9, g9⟩
end Go.Proofs.YtonnegkpjmhomaaGreatDoor
end
section
set_option linter.all false
namespace Go.Proofs.YtonnegkpjmhomaaGreatDoor
open Go.RowKit
set_option maxRecDepth 100000 in
set_option maxHeartbeats 4000000 in
theorem refWord_calls (k : Int) (h : 1 ≤ k ∧ k ≤ 14) (w : World) : Calls Tryz.prog 27 #[.int .i64 k] w fun e w' => e = .returned (.string (bs (wordK k))) ∧ w' = w := by
  obtain rfl | rfl | rfl | rfl | rfl | rfl | rfl | rfl | rfl | rfl | rfl | rfl | rfl | rfl : k = 1 ∨ k = 2 ∨ k = 3 ∨ k = 4 ∨ k = 5 ∨ k = 6 ∨ k = 7 ∨ k = 8 ∨ k = 9 ∨ k = 10 ∨ k = 11 ∨ k = 12 ∨ k = 13 ∨ k = 14 := by omega
  all_goals
    clear h
    go_enter Tryz.func27, Tryz.ntmps27
    go_wp2_with fail
    go_ret
    exact ⟨rfl, rfl⟩
set_option maxRecDepth 100000 in
set_option maxHeartbeats 4000000 in
theorem refArity_calls (k : Int) (h : 0 ≤ k ∧ k ≤ 14) (w : World) : Calls Tryz.prog 116 #[.int .i64 k] w fun e w' => e = .returned (.int .i64 (arity k)) ∧ w' = w := by
  obtain rfl | rfl | rfl | rfl | rfl | rfl | rfl | rfl | rfl | rfl | rfl | rfl | rfl | rfl | rfl : k = 0 ∨ k = 1 ∨ k = 2 ∨ k = 3 ∨ k = 4 ∨ k = 5 ∨ k = 6 ∨ k = 7 ∨ k = 8 ∨ k = 9 ∨ k = 10 ∨ k = 11 ∨ k = 12 ∨ k = 13 ∨ k = 14 := by omega
  all_goals
    clear h
    go_enter Tryz.func116, Tryz.ntmps116
    go_wp2_with fail
    go_ret
    exact ⟨rfl, rfl⟩
def kwF (l : List (List UInt8 × Int)) (t : List UInt8) : Int := ((l.find? (fun p => p.1 == t)).map (·.2)).getD 0
theorem tab_drop : ∀ j : Fin 14, wordTab.drop j.val = (wordK ((j.val : Int) + 1), ((j.val : Int) + 1)) :: wordTab.drop (j.val + 1) := by decide
theorem kwF_drop (t : List UInt8) (j : Nat) (h : j < 14) : kwF (wordTab.drop j) t = if (t == wordK ((j : Int) + 1)) = true then (j : Int) + 1 else kwF (wordTab.drop (j + 1)) t := by
  have e := tab_drop ⟨j, h⟩
  dsimp only at e
  rw [e]
  unfold kwF
  rw [List.find?_cons]
  dsimp only
  rw [Bool.beq_comm (a := t)]
  cases wordK ((j : Int) + 1) == t <;> rfl
set_option maxRecDepth 100000 in
set_option maxHeartbeats 4000000 in
theorem refKind_calls (t : List UInt8) (w : World) : Calls Tryz.prog 146 #[.string (bs t)] w fun e w' => e = .returned (.int .i64 (kindW t)) ∧ w' = w := by
  have HK := Lib.hid (fun k h W => refWord_calls k h W)
  obtain ⟨r, Hr⟩ : ∃ x, Hid (kindW t = x) := ⟨_, rfl⟩
  rw [Hr.out]
  have Hr : Hid (kwF (wordTab.drop 0) t = r) := Hr.out
  go_enter Tryz.func146, Tryz.ntmps146
  go_wp2_with fail
  go_loopg [3] 14 (fun gk s3 wr => ∃ j : Nat, j + gk = 14 ∧ s3 = .int .i64 (j + 1 : Nat) ∧ wr = w ∧ Hid (kwF (wordTab.drop j) t = r))
  case atStart => exact ⟨0, by omega, rfl, rfl, Hr⟩
  case round =>
    clear Hr
    obtain ⟨j, hj, rfl, rfl, Hj⟩ := hrel
    cases gk with
    | zero =>
      obtain rfl : j = 14 := by omega
      have Hv : Hid (r = 0) := Hj.out.symm
      go_wp2_with fail
      go_ret
      exact ⟨by rw [Hv.out] <;> rfl, rfl⟩
    | succ gk =>
      have hlt : j < 14 := by omega
      have Hn := Lib.hid (kwF_drop t j hlt)
      have hle : ((j : Int) + 1) ≤ 14 := by omega
      have hle1 : (1 : Int) ≤ (j : Int) + 1 := by omega
      go_wp2_with fail
      refine (HK.out _ ⟨hle1, hle⟩ _).mono ?_
      rintro e w1 ⟨rfl, rfl⟩
      cases hq : t == wordK ((j : Int) + 1)
      · have hq2 : ((bs (wordK ((j : Int) + 1))).toList == (bs t).toList) = false := (bs_beq _ _).trans ((Bool.beq_comm ..).trans hq)
        have Hv : Hid (kwF (wordTab.drop (j + 1)) t = r) := by show _ = _; rw [← Hj.out, Hn.out, hq]; rfl
        clear hq
        go_wp2_with fail
        go_roundg gk
        case measure => omega
        case rel => exact ⟨j + 1, by omega, by go_num, rfl, Hv⟩
      · have hq2 : ((bs (wordK ((j : Int) + 1))).toList == (bs t).toList) = true := (bs_beq _ _).trans ((Bool.beq_comm ..).trans hq)
        have Hv : Hid (r = (j : Int) + 1) := by show _ = _; rw [← Hj.out, Hn.out, hq]; rfl
        clear hq
        go_wp2_with fail
        go_ret
        exact ⟨by rw [Hv.out] <;> rfl, rfl⟩
end Go.Proofs.YtonnegkpjmhomaaGreatDoor
end
section
set_option linter.all false
namespace Go.Proofs.YtonnegkpjmhomaaGreatDoor
open Go.RowKit
abbrev words14 : List (List UInt8) := wordTab.map (·.1)
theorem words_take : ∀ j : Fin 14, words14.take (j.val + 1) = words14.take j.val ++ [wordK ((j.val : Int) + 1)] := by decide
set_option maxRecDepth 100000 in
set_option maxHeartbeats 4000000 in
theorem kinds_calls (w : World) : Calls Tryz.prog 147 #[] w fun e w' => ∃ v, e = .returned v ∧ w'.ownsRow w.heap.size 9 1 v words14.length (strC words14) ∧ Below w.heap.size w w' := by
  have HK := Lib.hid (fun k h W => refWord_calls k h W)
  obtain ⟨i0, hinf, hz0, hz1, hz2⟩ := info_parts infoString
  obtain ⟨WS, HWS⟩ : ∃ x, Hid (words14 = x) := ⟨_, rfl⟩
  rw [HWS.out]
  go_enter Tryz.func147, Tryz.ntmps147
  go_wp2_with fail
  go_loopg [1, 2] 14 (fun gk v s2 wr => ∃ (j : Nat) (ws : List (List UInt8)), j + gk = 14 ∧ s2 = .int .i64 (j + 1 : Nat) ∧ Hid (words14.take j = ws) ∧ ws.length = j ∧ wr.ownsRow w.heap.size 9 1 v ws.length (strC ws) ∧ Below w.heap.size w wr)
  case atStart => exact ⟨0, [], by omega, rfl, rfl, rfl, World.ownsRow_nil _ _ _ _, Below.refl _ _⟩
  case round =>
    obtain ⟨j, ws, hj, rfl, Hws, hwl, hrow, hW⟩ := hrel
    cases gk with
    | zero =>
      obtain rfl : j = 14 := by omega
      have Hv : Hid (WS = ws) := by show _ = _; rw [← HWS.out, ← Hws.out]; rfl
      clear hwl
      go_wp2_with fail
      go_ret
      exact ⟨_, rfl, by rw [Hv.out]; exact hrow, hW⟩
    | succ gk =>
      have hlt : j < 14 := by omega
      have hle : ((j : Int) + 1) ≤ 14 := by omega
      have hle1 : (1 : Int) ≤ (j : Int) + 1 := by omega
      obtain ⟨x, Hx⟩ : ∃ x, Hid (wordK ((j : Int) + 1) = x) := ⟨_, rfl⟩
      have Hn : Hid (words14.take (j + 1) = ws ++ [x]) := by show _ = _; rw [← Hws.out, ← Hx.out]; exact words_take ⟨j, hlt⟩
      have HK1 := Lib.hid (fun W => HK.out _ ⟨hle1, hle⟩ W)
      rw [Hx.out] at HK1
      obtain ⟨A, c, rfl⟩ := own_form hrow
      have hsz2 := hW.size
      have hwl2 : ws.length ≤ 13 := by omega
      have Hwl := Lib.hid hwl
      clear hwl
      go_wp2_with fail
      refine (HK1.out _).mono ?_
      rintro e w1 ⟨rfl, rfl⟩
      go_wp2_with (at_builtin; refine wpList_append_own _ rfl _ _ 29 rfl w.heap.size 9 i0 _ 1 16 Tryz.underlying29 hinf hz0 hz1 hz2 rfl (by decide) _ _ _ rfl (own_below hrow (below1 w1 (.cells #[.string (bs x)] 9)) (Nat.le_refl _)) ⟨w1.heap.size, 0, none⟩ 1 1 [.string (bs x)] rfl rfl (row_new _ _ _) (by simp [Value.oneCell']) (by unfold maxLen; omega) (by omega) (by simp; omega) ?_; intro v' w5 hown' hgrow _; obtain ⟨g', cap', rfl⟩ := ownsRow_succ hown'; have hW5 := (hW.alloc hsz2 (.cells #[.string (bs x)] 9)).grown hgrow (by simp; omega) (fun k e => own_row_lt hrow e))
      go_roundg gk
      case measure => omega
      case rel => exact ⟨j + 1, ws ++ [x], by omega, by go_num, Hn, by rw [List.length_append, Hwl.out]; rfl, by rw [strC_snoc, List.length_append]; exact hown', hW5⟩
end Go.Proofs.YtonnegkpjmhomaaGreatDoor
end
section
set_option linter.all false
namespace Go.Proofs.YtonnegkpjmhomaaGreatDoor
open Go.RowKit
theorem field_text (x y : Int) (s : ByteArray) (W : World) : (Instr.field 104 (.agg #[.int .i64 x, .int .i64 y, .string s]) 2).run Tryz.prog W = .ok (.string s) W := by
  kernel_rfl
structure RG (w wx : World) (F : Nat) (l : List UInt8) (f : Fm) (k : Int) (wv : Value) (ws : List Int) (b i : Int) : Prop where
  fm : FmAt wx F l f
  res : Blk wx w.heap.size 61 #[.int .i64 0, .slice none 0 0, .int .i64 0, .int .i64 0]
  g : Blk wx (w.heap.size + 1) 61 #[.int .i64 k, wv, .int .i64 b, .int .i64 i]
  row : wx.ownsRow w.heap.size 3 1 wv ws.length (ws.map (Value.int .i64))
  gr : w.grownBy wx (some F)
theorem RG.below {w wx wy : World} {F : Nat} {l : List UInt8} {f : Fm} {k : Int} {wv : Value} {ws : List Int} {b i : Int} (h : RG w wx F l f k wv ws b i) (hb : Below wx.heap.size wx wy) : RG w wy F l f k wv ws b i :=
  ⟨h.fm.below hb h.fm.lt, h.res.below hb h.res.lt, h.g.below hb h.g.lt, own_below h.row hb (Nat.le_refl _), grown_via h.gr hb⟩
theorem RG.took {w wx wy : World} {F : Nat} {l : List UInt8} {f f2 : Fm} {k : Int} {wv : Value} {ws : List Int} {b i : Int} (h : RG w wx F l f k wv ws b i) (hF : F < w.heap.size) (h2 : FmAt wy F l f2) (hg : wx.grownBy wy (some F)) : RG w wy F l f2 k wv ws b i :=
  ⟨h2, h.res.grown hg (fun e => by injection e; omega), h.g.grown hg (fun e => by injection e; omega), h.row.kept hg (.inr (own_blk_ne h.row h.fm (by decide))), grown_trans h.gr hg⟩
theorem self_grown (x : World) (b : Nat) : x.grownBy x (some b) := ⟨rfl, rfl, rfl, Nat.le_refl _, fun _ _ _ => rfl⟩
theorem RG.set_i {w wx : World} {F : Nat} {l : List UInt8} {f : Fm} {k : Int} {wv : Value} {ws : List Int} {b i : Int} (h : RG w wx F l f k wv ws b i) (hF : F < w.heap.size) (i' : Int) : RG w (wx.setCell ⟨w.heap.size + 1, 3, none⟩ (.int .i64 i')) F l f k wv ws b i' :=
  ⟨h.fm.far (by show F ≠ w.heap.size + 1; omega) _, h.res.far (by show w.heap.size ≠ w.heap.size + 1; omega) _, h.g.set_ 3 _, h.row.kept (grown_set (self_grown _ _) 3 _) (.inr (own_blk_ne h.row h.g (by decide))), grown_out h.gr (grown_set (self_grown _ _) 3 _) (by omega)⟩
theorem RG.set_k {w wx : World} {F : Nat} {l : List UInt8} {f : Fm} {k : Int} {wv : Value} {ws : List Int} {b i : Int} (h : RG w wx F l f k wv ws b i) (hF : F < w.heap.size) (k' : Int) : RG w (wx.setCell ⟨w.heap.size + 1, 0, none⟩ (.int .i64 k')) F l f k' wv ws b i :=
  ⟨h.fm.far (by show F ≠ w.heap.size + 1; omega) _, h.res.far (by show w.heap.size ≠ w.heap.size + 1; omega) _, h.g.set_ 0 _, h.row.kept (grown_set (self_grown _ _) 0 _) (.inr (own_blk_ne h.row h.g (by decide))), grown_out h.gr (grown_set (self_grown _ _) 0 _) (by omega)⟩
theorem RG.set_b {w wx : World} {F : Nat} {l : List UInt8} {f : Fm} {k : Int} {wv : Value} {ws : List Int} {b i : Int} (h : RG w wx F l f k wv ws b i) (hF : F < w.heap.size) (b' : Int) : RG w (wx.setCell ⟨w.heap.size + 1, 2, none⟩ (.int .i64 b')) F l f k wv ws b' i :=
  ⟨h.fm.far (by show F ≠ w.heap.size + 1; omega) _, h.res.far (by show w.heap.size ≠ w.heap.size + 1; omega) _, h.g.set_ 2 _, h.row.kept (grown_set (self_grown _ _) 2 _) (.inr (own_blk_ne h.row h.g (by decide))), grown_out h.gr (grown_set (self_grown _ _) 2 _) (by omega)⟩
theorem RG.set_w {w wx w7 : World} {F : Nat} {l : List UInt8} {f : Fm} {k : Int} {wv v' : Value} {ws : List Int} {b i m : Int} {row : Option Nat} (h : RG w wx F l f k wv ws b i) (hF : F < w.heap.size)
    (hown : w7.ownsRow w.heap.size 3 1 v' (ws.length + 1) (ws.map (Value.int .i64) ++ [.int .i64 m])) (hg : wx.grownBy w7 row) (hrr : ∀ g, row = some g → w.heap.size ≤ g ∧ ∃ cur, Blk wx g 3 cur) :
    RG w (w7.setCell ⟨w.heap.size + 1, 1, none⟩ v') F l f k v' (ws ++ [m]) b i := by
  obtain ⟨h1, h2, h3, h4, h5⟩ := h
  have ne_ : ∀ {g : Nat} {t : TypeId} {cs : Array Value}, Blk wx g t cs → t ≠ 3 → row ≠ some g := fun hb ht e => by
    obtain ⟨_, cur, hc⟩ := hrr _ e
    exact hc.ne_ hb (Ne.symm ht) rfl
  have hs : w7.grownBy (w7.setCell ⟨w.heap.size + 1, 1, none⟩ v') (some (w.heap.size + 1)) := grown_set (self_grown _ _) 1 v'
  have k1 : FmAt w7 F l f := Blk.grown h1 hg (fun e => ne_ h1 (by decide) e.symm)
  have k2 := h2.grown hg (fun e => ne_ h2 (by decide) e.symm)
  have k3 := h3.grown hg (fun e => ne_ h3 (by decide) e.symm)
  refine ⟨k1.far (by show F ≠ w.heap.size + 1; omega) _, k2.far (by show w.heap.size ≠ w.heap.size + 1; omega) _, k3.set_ 1 v', ?_, ?_⟩
  · rw [List.length_append, List.map_append]
    exact hown.kept hs (.inr (own_blk_ne hown k3 (by decide)))
  · have g7 : w.grownBy w7 (some F) := ⟨hg.os.trans h5.os, hg.tape.trans h5.tape, hg.output.trans h5.output, Nat.le_trans h5.size hg.size, fun j hj hjr => (hg.block j (Nat.lt_of_lt_of_le hj h5.size) (fun e => by have := (hrr j e.symm).1; omega)).trans (h5.block j hj hjr)⟩
    exact grown_out g7 hs (by omega)
theorem gateR_eq (l : List UInt8) {f a b cf df : Fm} {ifn k bit : Int} {n : Nat} {ws : List Int} (ha : ifR l f = (ifn, a)) (hb : tk l 1 words14 a = b) (hk : kindW a.r.text = k) (hn : arity k = n) (hw : wiresR l n b = (ws, cf))
    (hd : (if k = 13 then (numR cf.r.text, tk l 2 [] cf) else (0, cf)) = (bit, df)) : gateR l f = (⟨k, ws, bit, ifn⟩, df, tk l 59 [] df) := by
  subst hb hk
  simp only [gateR, ha, hn, Int.toNat_natCast, hw, hd]
theorem gt_six {w : World} {R B : Nat} {a b c d x y z : Value} (h : Blk w R 61 #[a, b, c, d]) (h' : Blk w B 104 #[x, y, z]) :
    w.cell? ⟨R, 0, none⟩ = some a ∧ w.cell? ⟨R, 1, none⟩ = some b ∧ w.cell? ⟨R, 2, none⟩ = some c ∧ w.cell? ⟨R, 3, none⟩ = some d ∧ w.cell? ⟨B, 0, none⟩ = some x ∧ w.cell? ⟨B, 2, none⟩ = some z := ⟨h.cell 0, h.cell 1, h.cell 2, h.cell 3, h'.cell 0, h'.cell 2⟩
theorem grown_put4d (w : World) (b : Nat) (v0 v1 v2 v3 : Value) : w.grownBy ((((w.setCell ⟨b, 0, none⟩ v0).setCell ⟨b, 1, none⟩ v1).setCell ⟨b, 2, none⟩ v2).setCell ⟨b, 3, none⟩ v3).drew (some b) :=
  grown_via (grown_put4 w b v0 v1 v2 v3) ((Below.refl _ _).drew)
theorem kindW_range (t : List UInt8) : 0 ≤ kindW t ∧ kindW t ≤ 14 := by
  unfold kindW
  cases hf : wordTab.find? (fun p => p.1 == t) with
  | none => simp
  | some p =>
    have h : ∀ p ∈ wordTab, 0 ≤ p.2 ∧ p.2 ≤ 14 := by decide
    exact h p (List.mem_of_find?_eq_some hf)
theorem arity_range (k : Int) : 0 ≤ arity k ∧ arity k ≤ 3 := by
  unfold arity
  repeat' split
  all_goals omega
theorem ifR_eq (l : List UInt8) (f c d : Fm) (hc : tk l 1 [] f = c) (hd : tk l 2 [] c = d) : ifR l f = if isR [105, 102] f then (numR c.r.text + 1, tk l 58 [] d) else (0, f) := by
  subst hc hd; rfl
set_option maxRecDepth 100000 in
set_option maxHeartbeats 8000000 in
theorem refGate_calls (F : Nat) (l : List UInt8) (hl : l.length ≤ 1000000) (f : Fm) (hok : OkT l f.r) (w : World) (h : FmAt w F l f) :
    Calls Tryz.prog 103 #[.pointer (some ⟨F, 0, none⟩)] w fun e w' => ∃ wv, e = .returned (.tuple #[.agg #[.int .i64 (gateR l f).1.kind, wv, .int .i64 (gateR l f).1.bit, .int .i64 (gateR l f).1.ifn], .int .i64 f.r.at_, .int .i64 ((gateR l f).2.1.r.at_ + (gateR l f).2.1.r.text.length : Nat)]) ∧ w'.ownsRow w.heap.size 3 1 wv (gateR l f).1.wires.length ((gateR l f).1.wires.map (Value.int .i64)) ∧ FmAt w' F l (gateR l f).2.2 ∧ w.grownBy w' (some F) := by
  obtain ⟨G, HGR⟩ : ∃ x, Hid (gateR l f = x) := ⟨_, rfl⟩
  rw [HGR.out]
  obtain ⟨c, Hc⟩ : ∃ x, Hid (tk l 1 [] f = x) := ⟨_, rfl⟩
  obtain ⟨d, Hd⟩ : ∃ x, Hid (tk l 2 [] c = x) := ⟨_, rfl⟩
  have He := Lib.hid (ifR_eq l f c d Hc.out Hd.out)
  have oc : OkT l c.r := by rw [← Hc.out]; exact okT_tk hok _ _
  have od : OkT l d.r := by rw [← Hd.out]; exact okT_tk oc _ _
  obtain ⟨⟨ifn, a⟩, Ha⟩ : ∃ x, Hid (ifR l f = x) := ⟨_, rfl⟩
  have Oa : Hid (OkT l a.r) := by
    show OkT l a.r
    have e := He.out
    rw [Ha.out] at e
    by_cases hb : isR [105, 102] f = true
    · rw [if_pos hb] at e
      obtain ⟨_, rfl⟩ := Prod.mk.inj e
      exact okT_tk od _ _
    · rw [if_neg hb] at e
      obtain ⟨_, rfl⟩ := Prod.mk.inj e
      exact hok
  have hnc := numV_fits c.r.text (by have := oc.2; omega)
  have T1 := Lib.hid (fun W h => tk_calls F l hl f hok 1 1 rfl (by decide) W h)
  have T2 := Lib.hid (fun W h => tk_calls F l hl c oc 2 2 rfl (by decide) W h)
  have T3 := Lib.hid (fun W h => tk_calls F l hl d od 58 58 rfl (by decide) W h)
  have T5 := Lib.hid (fun (g : Fm) (og : OkT l g.r) W h => tk_calls F l hl g og 59 59 rfl (by decide) W h)
  have N1 := Lib.hid (fun W => num_calls c.r oc.2 W)
  have I1 := Lib.hid (fun W h => refIs_calls F l f [105, 102] W h)
  have HKS := Lib.hid (fun W => kinds_calls W)
  rw [Hc.out] at T1
  rw [Hd.out] at T2
  unfold tokV at T1 T2 T3 T5 N1
  obtain ⟨nc, Hnc⟩ : ∃ x : Nat, Hid (numV c.r.text = x) := ⟨_, rfl⟩
  unfold numR at N1 He
  rw [Hnc.out] at N1 He hnc
  clear hok oc od Hc Hd
  have hF := h.lt
  have h0 : RG w ((w.alloc (.cells #[.int .i64 0, .slice none 0 0, .int .i64 0, .int .i64 0] 61)).alloc (.cells #[.int .i64 0, .slice none 0 0, .int .i64 0, .int .i64 0] 61)) F l f 0 (.slice none 0 0) [] 0 0 :=
    ⟨(Blk.alloc h _).alloc _, (Blk.new w _ _).alloc _, Blk.at_ _ _ _ (by simp), World.ownsRow_nil _ _ _ _, grown_below (below2 _ _ _) _⟩
  obtain ⟨x0, x1, x2, x3, x4, x5, x6, x7, x8, x9, xf⟩ := Blk.cells10 ((Blk.alloc h (.cells #[.int .i64 0, .slice none 0 0, .int .i64 0, .int .i64 0] 61)))
  clear h
  go_enter Tryz.func103, Tryz.ntmps103
  go_upto_region 3 with fail
  clear x0 x1 x2 x3 x4 x5 x6 x7 x8 x9 xf
  go_wp2_with fail
  refine (I1.out _ h0.fm).mono ?_
  rintro e w1 ⟨rfl, hb1⟩
  have h1 := h0.below hb1
  clear h0 hb1
  go_upto_if 17 with fail
  go_cut [] (fun wx => RG w wx F l a 0 (.slice none 0 0) [] 0 ifn)
  case first =>
    cases hb : isR [105, 102] f
    · have Hv : Hid (ifn = 0 ∧ a = f) := by
        show _ ∧ _
        have e := He.out
        rw [Ha.out, if_neg (by rw [hb]; decide)] at e
        exact Prod.mk.inj e
      clear hb
      go_wp2_with fail
      go_meet
      obtain ⟨e1, e2⟩ := Hv.out
      subst e1 e2
      exact h1
    · have Hv : Hid (ifn = (nc : Int) + 1 ∧ a = tk l 58 [] d) := by
        show _ ∧ _
        have e := He.out
        rw [Ha.out, if_pos hb] at e
        exact Prod.mk.inj e
      clear hb
      go_wp2_with fail
      refine (T1.out _ h1.fm).mono ?_
      rintro e w2 ⟨rfl, h2, g2⟩
      have h2 := h1.took hF h2 g2
      clear h1 g2
      go_wp2_with fail
      refine (T2.out _ h2.fm).mono ?_
      rintro e w3 ⟨rfl, h3, g3⟩
      have h3 := h2.took hF h3 g3
      clear h2 g3
      go_wp2_with fail
      refine (N1.out _).mono ?_
      rintro e w4 ⟨rfl, hb4⟩
      have h4 := h3.below hb4
      clear h3 hb4
      obtain ⟨y0, y1, y2, y3, yf⟩ := h4.g.cells4
      go_wp2_with fail
      clear y0 y1 y2 y3 yf
      have h5 := h4.set_i hF ((nc : Int) + 1)
      refine (T3.out _ h5.fm).mono ?_
      rintro e w6 ⟨rfl, h6, g6⟩
      have h6 := h5.took hF h6 g6
      go_wp2_with fail
      go_meet
      obtain ⟨e1, e2⟩ := Hv.out
      subst e1 e2
      exact h6
  case rest =>
    have h1 := hcut
    clear hcut
    obtain ⟨b, Hb⟩ : ∃ x, Hid (tk l 1 words14 a = x) := ⟨_, rfl⟩
    have Ob : Hid (OkT l b.r) := by show OkT l b.r; rw [← Hb.out]; exact okT_tk Oa.out _ _
    have T7 := Lib.hid (fun n0 v W h hrow => takes_calls F l hl a Oa.out.1 1 words14 (by decide) n0 v W h hrow (by decide))
    change Hid (∀ n0 v W h hrow, Calls _ _ _ _ fun e w' => e = _ ∧ FmAt w' F l (tk l 1 words14 a) ∧ _) at T7
    rw [Hb.out] at T7
    obtain ⟨k, Hk⟩ : ∃ x, Hid (kindW a.r.text = x) := ⟨_, rfl⟩
    have K7 := Lib.hid (fun W => refKind_calls a.r.text W)
    rw [Hk.out] at K7
    go_wp2_with fail
    have hfld := fun W => field_text (a.r.at_ : Int) (a.r.kind : Int) (bs a.r.text) W
    refine (HKS.out _).mono ?_
    rintro e w2 ⟨v, rfl, hrv, hb2⟩
    have h2 := h1.below hb2
    clear h1 hb2
    go_wp2_with fail
    refine (T7.out _ _ _ h2.fm hrv).mono ?_
    rintro e w3 ⟨rfl, h3, g3⟩
    have h3 := h2.took hF h3 g3
    clear h2 hrv g3
    go_wp2_with fail
    refine (K7.out _).mono ?_
    rintro e w4 ⟨rfl, rfl⟩
    obtain ⟨y0, y1, y2, y3, yf⟩ := h3.g.cells4
    go_upto_block 0 with fail
    have h5 := h3.set_k hF k
    clear y0 y1 y2 y3 yf
    have hkr := kindW_range a.r.text
    rw [Hk.out] at hkr
    obtain ⟨n, Hn⟩ : ∃ n : Nat, Hid (arity k = n) := ⟨(arity k).toNat, (Int.toNat_of_nonneg (arity_range k).1).symm⟩
    have hn3 : n ≤ 3 := by have := (arity_range k).2; rw [Hn.out] at this; omega
    have HA := Lib.hid (fun W => refArity_calls k hkr W)
    rw [Hn.out] at HA
    obtain ⟨⟨ws, cf⟩, Hw⟩ : ∃ x, Hid (wiresR l n b = x) := ⟨_, rfl⟩
    obtain ⟨i0, hinf, hz0, hz1, hz2⟩ := info_parts infoInt
    go_cut [7] from 33 to 47 (fun _ wx => ∃ wv, RG w wx F l cf k wv ws 0 ifn ∧ OkT l cf.r)
    case first =>
      go_wp2_with fail
      go_loopg [7] n (fun gk s7 wr => ∃ (j : Nat) (pre : List Int) (fj : Fm) (wv : Value), j + gk = n ∧ s7 = .int .i64 j ∧ pre.length = j ∧ wiresR l n b = (pre ++ (wiresR l gk fj).1, (wiresR l gk fj).2) ∧ OkT l fj.r ∧ RG w wr F l fj k wv pre 0 ifn)
      case atStart => exact ⟨0, [], b, .slice none 0 0, by omega, rfl, rfl, rfl, Ob.out, h5⟩
      case round =>
        clear h5
        obtain ⟨j, pre, fj, wv, hj, rfl, hpl, hw, hoj, h⟩ := hrel
        obtain rfl : j = pre.length := hpl.symm
        clear hpl
        have Hwj := Lib.hid hw
        clear hw
        obtain ⟨y0, y1, y2, y3, yf⟩ := h.g.cells4
        cases gk with
        | zero =>
          obtain ⟨e1, e2⟩ : Hid (ws = pre) ∧ Hid (cf = fj) := by
            have e := Hw.out.symm.trans Hwj.out
            obtain ⟨e1, e2⟩ := Prod.mk.inj e
            exact ⟨by show _ = _; rw [e1]; simp [wiresR], e2⟩
          have hjn : pre.length = n := by omega
          go_wp2_with fail
          refine (HA.out _).mono ?_
          rintro e w6 ⟨rfl, rfl⟩
          go_wp2_with fail
          go_meet
          exact ⟨_, by rw [e1.out, e2.out]; exact h, by rw [e2.out]; exact hoj⟩
        | succ gk =>
          have hlt : (pre.length : Int) < (n : Int) := by omega
          go_wp2_with fail
          obtain ⟨f2, Hf2⟩ : ∃ x, Hid (tk l 2 [] fj = x) := ⟨_, rfl⟩
          obtain ⟨m, Hm⟩ : ∃ x : Nat, Hid (numV fj.r.text = x) := ⟨_, rfl⟩
          have Oj2 : Hid (OkT l f2.r) := by show OkT l f2.r; rw [← Hf2.out]; exact okT_tk hoj _ _
          have T := Lib.hid (fun W h => tk_calls F l hl fj hoj 2 2 rfl (by decide) W h)
          have N := Lib.hid (fun W => num_calls fj.r hoj.2 W)
          rw [Hf2.out] at T
          unfold numR at N
          rw [Hm.out] at N
          unfold tokV at T N
          have Hw2 : Hid (wiresR l n b = ((pre ++ [(m : Int)]) ++ (wiresR l gk f2).1, (wiresR l gk f2).2)) := by
            show _ = _
            rw [Hwj.out, wiresR, Hf2.out, show numR fj.r.text = (m : Int) by rw [← Hm.out]]
            simp
          clear hoj
          obtain ⟨A, cc, rfl⟩ := own_form h.row
          refine (HA.out _).mono ?_
          rintro e w6 ⟨rfl, rfl⟩
          have h4 := h.below ((Below.refl _ _).drew)
          go_wp2_with fail
          clear y0 y1 y2 y3 yf h
          obtain ⟨y0, y1, y2, y3, yf⟩ := h4.g.cells4
          have hml : pre.length + 1 ≤ maxLen := by unfold maxLen; omega
          go_region_law (first
            | (go_simp; go_at_call 143; (with_reducible refine (T.out _ h4.fm).mono ?_); rintro e w5 ⟨rfl, h5, g5⟩; have h5 := h4.took hF h5 g5; clear y0 y1 y2 y3 yf; obtain ⟨y0, y1, y2, y3, yf⟩ := h5.g.cells4)
            | (go_simp; go_at_call 144; (with_reducible refine (N.out _).mono ?_); rintro e w7 ⟨rfl, hb7⟩; have h7 := h5.below hb7; clear y0 y1 y2 y3 yf; obtain ⟨y0, y1, y2, y3, yf⟩ := h7.g.cells4; have hgl : w.heap.size + 1 < w7.heap.size := h7.g.lt; have y1b : (w7.alloc (.cells #[.int .i64 m] 3)).cell? ⟨w.heap.size + 1, 1, none⟩ = some (.slice A pre.length cc) := (World.cell?_alloc_lt _ _ _ hgl).trans y1)
            | (refine step_append_one rfl _ _ 30 rfl w.heap.size 3 i0 _ 1 8 Tryz.underlying30 hinf hz0 hz1 hz2 rfl (by decide) (.slice A pre.length cc) pre.length (pre.map (Value.int .i64)) rfl (h7.row.alloc _) ⟨w7.heap.size, 0, none⟩ 1 1 [.int .i64 m] rfl rfl (row_new _ _ _) (by simp [Value.oneCell']) hml (by omega) (by have := h7.gr.size; simp; omega) ?_; intro v' w8 row hown' hgrow hrr; obtain ⟨g', cap', rfl⟩ := ownsRow_succ hown'; have hrr2 : ∀ g, row = some g → w.heap.size ≤ g ∧ ∃ cur, Blk (w7.alloc (.cells #[.int .i64 m] 3)) g 3 cur := (fun g e => by rcases hrr with h | ⟨g2, cap2, cur2, h2, hv2, _, hb2, _⟩; (rw [h] at e; cases e); (rw [h2] at e; injection e with e; subst e; exact ⟨(h7.row.lt g2 (by rw [hv2]; rfl)).1, cur2, hb2⟩)); have h7a := h7.below (below1 w7 (.cells #[.int .i64 m] 3)); have hgB := h7a.g.grown hgrow (fun e => by obtain ⟨_, cur, hb⟩ := hrr2 _ e.symm; exact hb.ne_ h7a.g (by decide) rfl); clear y0 y1 y2 y3 yf y1b; obtain ⟨y0, y1, y2, y3, yf⟩ := hgB.cells4))
          all_goals
            have H9 := Lib.hid (h7a.set_w hF hown' hgrow hrr2)
            have Hpl2 : Hid ((pre ++ [(m : Int)]).length = pre.length + 1) := by show _ = _; simp
            clear h4 h5 h7 h7a hgB hown' hgrow hrr hrr2 g5 hb7 T N y0 y1 y2 y3 yf
            go_wp2_with fail
            go_roundg gk
            case measure => omega
            case rel => exact ⟨pre.length + 1, pre ++ [(m : Int)], f2, _, by omega, by go_num, Hpl2.out, Hw2.out, Oj2.out, H9.out⟩
    case rest =>
      clear h5
      obtain ⟨wv, h5, ok5⟩ := hcut
      obtain ⟨⟨bit, df⟩, Hdd⟩ : ∃ x, Hid ((if k = 13 then (numR cf.r.text, tk l 2 [] cf) else (0, cf)) = x) := ⟨_, rfl⟩
      have HG2 : Hid (G = (⟨k, ws, bit, ifn⟩, df, tk l 59 [] df)) := by
        show _ = _
        rw [← HGR.out]
        exact gateR_eq l Ha.out Hb.out Hk.out Hn.out Hw.out Hdd.out
      obtain ⟨A, cc, rfl⟩ := own_form h5.row
      clear HGR Ha Hb Hk Hn Hw HA hkr hn3 Hnc hnc He N1 I1 HKS T1 T2 T3 T7 K7 hfld
      obtain ⟨y0, y1, y2, y3, yf⟩ := h5.g.cells4
      go_upto_if 50 with fail
      clear y0 y1 y2 y3 yf
      go_cut [] (fun wx => RG w wx F l df k (.slice A ws.length cc) ws bit ifn ∧ OkT l df.r)
      case first =>
        by_cases hk : k = 13
        · have Hb : Hid (bit = numR cf.r.text ∧ df = tk l 2 [] cf) := by
            show _ ∧ _
            have e := Hdd.out
            rw [if_pos hk] at e
            obtain ⟨e1, e2⟩ := Prod.mk.inj e
            exact ⟨e1.symm, e2.symm⟩
          subst hk
          obtain ⟨f2, Hf2⟩ : ∃ x, Hid (tk l 2 [] cf = x) := ⟨_, rfl⟩
          obtain ⟨m, Hm⟩ : ∃ x : Nat, Hid (numV cf.r.text = x) := ⟨_, rfl⟩
          have Oj2 : Hid (OkT l f2.r) := by show OkT l f2.r; rw [← Hf2.out]; exact okT_tk ok5 _ _
          have T := Lib.hid (fun W h => tk_calls F l hl cf ok5 2 2 rfl (by decide) W h)
          have N := Lib.hid (fun W => num_calls cf.r ok5.2 W)
          rw [Hf2.out] at T
          unfold numR at N
          rw [Hm.out] at N
          unfold tokV at T N
          go_wp2_with fail
          refine (T.out _ h5.fm).mono ?_
          rintro e w6 ⟨rfl, h6, g6⟩
          have h6 := h5.took hF h6 g6
          clear g6
          go_wp2_with fail
          refine (N.out _).mono ?_
          rintro e w7 ⟨rfl, hb7⟩
          have h7 := h6.below hb7
          clear hb7
          obtain ⟨y0, y1, y2, y3, yf⟩ := h7.g.cells4
          have H8 := Lib.hid (h7.set_b hF (m : Int))
          go_wp2_with fail
          go_meet
          obtain ⟨e1, e2⟩ := Hb.out
          have e3 : bit = (m : Int) := by rw [e1, ← Hm.out]
          have e4 : df = f2 := e2.trans Hf2.out
          subst e3 e4
          exact ⟨H8.out, Oj2.out⟩
        · have Hb : Hid (bit = 0 ∧ df = cf) := by
            show _ ∧ _
            have e := Hdd.out
            rw [if_neg hk] at e
            obtain ⟨e1, e2⟩ := Prod.mk.inj e
            exact ⟨e1.symm, e2.symm⟩
          go_wp2_with fail
          go_meet
          obtain ⟨e1, e2⟩ := Hb.out
          subst e1 e2
          exact ⟨h5, ok5⟩
      case rest =>
        clear h5 ok5 Hdd
        obtain ⟨h5, ok5⟩ := hcut
        have hsum := ok5.1
        unfold OkR at hsum
        obtain ⟨ef, Hef⟩ : ∃ x, Hid (tk l 59 [] df = x) := ⟨_, rfl⟩
        have T := Lib.hid (fun W h => T5.out df ok5 W h)
        rw [Hef.out] at T HG2
        clear T5 ok5
        go_wp2_with fail
        refine (T.out _ h5.fm).mono ?_
        rintro e w6 ⟨rfl, h6, g6⟩
        have h6 := h5.took hF h6 g6
        clear g6 h5 T
        have h7 := h6.below (below1 w6 (.cells #[.int .i64 df.r.at_, .int .i64 df.r.kind, .string (bs df.r.text)] 104))
        have b8 := Blk.new w6 104 #[.int .i64 df.r.at_, .int .i64 df.r.kind, .string (bs df.r.text)]
        have hgs : w.heap.size + 1 < w6.heap.size := h6.g.lt
        go_upto_region 15 with fail
        generalize w6.alloc (.cells #[.int .i64 df.r.at_, .int .i64 df.r.kind, .string (bs df.r.text)] 104) = wa at *
        have hgb := h7.g
        have hrs := h7.res
        have hne1 : w.heap.size + 1 ≠ w.heap.size := by omega
        have hne2 : w6.heap.size ≠ w.heap.size := by omega
        have z0 := h7.res.cell 0
        have z1 := h7.res.cell 1
        have z2 := h7.res.cell 2
        have z3 := h7.res.cell 3
        have zf := h7.res.frozen
        simp at z0 z1 z2 z3
        have hsz : (bs df.r.text).size = df.r.text.length := bs_size _
        have hs0 : (0 : Int) ≤ (df.r.at_ : Int) + (df.r.text.length : Int) := by omega
        have hs1 : (df.r.at_ : Int) + (df.r.text.length : Int) ≤ 1000000 := by omega
        have hws : IntKind.i64.wrap ((df.r.at_ : Int) + (df.r.text.length : Int)) = (df.r.at_ : Int) + (df.r.text.length : Int) := IntWalk.i64_in _ (by omega)
        have R7 := Lib.hid h7
        have hgp := grown_put4d wa w.heap.size (.int .i64 k) (.slice A ws.length cc) (.int .i64 bit) (.int .i64 ifn)
        clear h6 h7 hsum
        go_region_held3 (fun W => W.cell? ⟨w.heap.size + 1, 0, none⟩ = some (.int .i64 k) ∧ W.cell? ⟨w.heap.size + 1, 1, none⟩ = some (.slice A ws.length cc) ∧ W.cell? ⟨w.heap.size + 1, 2, none⟩ = some (.int .i64 bit) ∧ W.cell? ⟨w.heap.size + 1, 3, none⟩ = some (.int .i64 ifn) ∧ W.cell? ⟨w6.heap.size, 0, none⟩ = some (.int .i64 df.r.at_) ∧ W.cell? ⟨w6.heap.size, 2, none⟩ = some (.string (bs df.r.text)))
          ((with_reducible refine gt_six (y := .int .i64 df.r.kind) ?_ ?_) <;> (repeat (first | (with_reducible exact hgb) | (with_reducible exact b8) | ((with_reducible refine Blk.far' ?_ _ ?_); (focus ((try dsimp only); (first | exact hne1 | exact hne2)))) | (with_reducible refine Blk.drew ?_)))) (fail)
        rename_i hh9
        clear hh9
        go_wp2_with fail
        refine bodyPost_ret (v := .tuple #[.agg #[.int .i64 k, .slice A ws.length cc, .int .i64 bit, .int .i64 ifn], .int .i64 f.r.at_, .int .i64 ((df.r.at_ : Int) + (df.r.text.length : Int))]) (by simp [results, Tryz.results103, go_sem, z0, z1, z2, z3]) rfl ?_
        rw [HG2.out]
        have h7 := R7.out
        exact ⟨_, rfl, h7.row.kept hgp (.inr (own_blk_ne h7.row h7.res (by decide))), Blk.grown h7.fm hgp (fun e => by injection e; omega), grown_out h7.gr hgp (Nat.le_refl _)⟩
end Go.Proofs.YtonnegkpjmhomaaGreatDoor
end
